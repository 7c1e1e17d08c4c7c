-- written by mk.sh, a program of this session, over the kit's print
import Derived.Test.YtpgecdidddoglaaRbQAux
import Derived.Test.YtpgecdidddoglaaRbPx0
import Derived.Test.YtpgecdidddoglaaRbPx6
import Derived.Test.YtpgecdidddoglaaRbPx7
import Derived.Test.YtpgecdidddoglaaRbPx8
import Derived.Test.YtpgecdidddoglaaRbPx9
import Derived.Test.YtpgecdidddoglaaRbPx18
namespace Go.Proofs.Ytpgecdidddoglaa.P
open Go.RowKit Go.Proofs.YtpgecdidddoglaaW.PrintWords Go.Proofs.YtpgecdidddoglaaW.PrintLast Go.Proofs.YtpgecdidddoglaaW.PrintMore
attribute [local go_sem] max2_int min2_int max_two min_two max_three min_three max_four min_four   -- for this text's walks alone
set_option linter.unusedVariables false
set_option linter.unusedSimpArgs false

mutual
def reedsol_Stripe.j0 : Nat → List Int → Int → RCode → Bool → Int → Int → Int → Int → Option (List Int × Int)
 | 0,_,_,_,_,_,_,_,_ => none
 | k + 1,x1,x2,x8,x21,x475000,x475001,x475002,x475003 => if x21 = true then (some (([] : List Int),1)) else (if x2 = 0 then (none) else (if ((x1.length : Int) % x2) = 0 then (if 0 < x8.size then (if (wrap64 ((x1.length : Int) / x2)) > (wrap64 ((wrap64 ((x8.size : Int) - 1)) - x475003)) then (some (([] : List Int),6)) else ((reedsol_code_right.f k x8 x1).bind fun t479 => (if t479 = true then (if 0 ≤ x2 then (if (x2 : Int).toNat ≤ 11728124029610 then ((some (List.replicate (x2 : Int).toNat [] : List (List Int))).bind fun y480 => (reedsol_Stripe.l0 k x1 x2 x8 y480 (y480.length : Int) 0)) else (none)) else (none)) else (some (([] : List Int),11))))) else (none)) else (some (([] : List Int),5))))
def reedsol_Stripe.l0 : Nat → List Int → Int → RCode → List (List Int) → Int → Int → Option (List Int × Int)
 | 0,_,_,_,_,_,_ => none
 | k + 1,x1,x2,x8,x10,x56,x57 => if x57 < x56 then ((reedsol_apart.f k x1 x57 x2).bind fun t483 => ((reedsol_code_encode.f k x8 t483).bind fun t486 => (if 0 ≤ x57 then (if x57 < (x10.length : Int) then (reedsol_Stripe.l0 k x1 x2 x8 (x10.set (x57 : Int).toNat t486) x56 (wrap64 (x57 + 1))) else (none)) else (none)))) else ((reedsol_together.f k x10).bind fun t490 => (some (t490,0)))
end
def reedsol_Stripe.f (k : Nat) (a0_0 : Int) (a0_1 : Int) (a0_2 : Int) (a0_3 : Int) (l1 : List Int) (a2 : Int) : Option (List Int × Int) := (reedsol_open.f k a0_0 a0_1 a0_2 a0_3).bind fun bt475 => (if bt475.2 = 0 then (if a2 < 1 then (reedsol_Stripe.j0 k l1 a2 bt475.1 true a0_0 a0_1 a0_2 a0_3) else (reedsol_Stripe.j0 k l1 a2 bt475.1 (decide (a2 > 64)) a0_0 a0_1 a0_2 a0_3)) else (some (([] : List Int),bt475.2)))
theorem reedsol_Stripe.mono_l : ∀ k,(∀ y0 y1 y2 y3 y4 y5 y6 y7,LeO (reedsol_Stripe.j0 k y0 y1 y2 y3 y4 y5 y6 y7) (reedsol_Stripe.j0 (k + 1) y0 y1 y2 y3 y4 y5 y6 y7)) ∧ (∀ y0 y1 y2 y3 y4 y5,LeO (reedsol_Stripe.l0 k y0 y1 y2 y3 y4 y5) (reedsol_Stripe.l0 (k + 1) y0 y1 y2 y3 y4 y5))
 | 0 => ⟨fun _ _ _ _ _ _ _ _ r h => by simp [reedsol_Stripe.j0] at h,fun _ _ _ _ _ _ r h => by simp [reedsol_Stripe.l0] at h⟩
 | k + 1 => by
  obtain ⟨ih0,ih1⟩ := reedsol_Stripe.mono_l k
  refine ⟨?_,?_⟩
  ·intro y0 y1 y2 y3 y4 y5 y6 y7
   unfold reedsol_Stripe.j0
   repeat' with_reducible first
   | exact ih0 _ _ _ _ _ _ _ _
   | exact ih1 _ _ _ _ _ _
   | exact reedsol_apart.mono _ _ _ _
   | exact reedsol_code_encode.mono _ _ _
   | exact reedsol_code_right.mono _ _ _
   | exact reedsol_open.mono _ _ _ _ _
   | exact reedsol_together.mono _ _
   | exact LeO.refl _
   | exact LeO.none _
   | refine LeO.ite ?_ ?_
   | refine LeO.bind ?_ (fun _ => ?_)
  ·intro y0 y1 y2 y3 y4 y5
   unfold reedsol_Stripe.l0
   repeat' with_reducible first
   | exact ih0 _ _ _ _ _ _ _ _
   | exact ih1 _ _ _ _ _ _
   | exact reedsol_apart.mono _ _ _ _
   | exact reedsol_code_encode.mono _ _ _
   | exact reedsol_code_right.mono _ _ _
   | exact reedsol_open.mono _ _ _ _ _
   | exact reedsol_together.mono _ _
   | exact LeO.refl _
   | exact LeO.none _
   | refine LeO.ite ?_ ?_
   | refine LeO.bind ?_ (fun _ => ?_)
theorem reedsol_Stripe.mono : ∀ a0 a1 a2 a3 a4 a5 k,LeO (reedsol_Stripe.f k a0 a1 a2 a3 a4 a5) (reedsol_Stripe.f (k + 1) a0 a1 a2 a3 a4 a5) := by
 intro a0 a1 a2 a3 a4 a5 k
 obtain ⟨ih0,ih1⟩ := reedsol_Stripe.mono_l k
 unfold reedsol_Stripe.f
 repeat' with_reducible first
   | exact ih0 _ _ _ _ _ _ _ _
   | exact ih1 _ _ _ _ _ _
   | exact reedsol_apart.mono _ _ _ _
   | exact reedsol_code_encode.mono _ _ _
   | exact reedsol_code_right.mono _ _ _
   | exact reedsol_open.mono _ _ _ _ _
   | exact reedsol_together.mono _ _
   | exact LeO.refl _
   | exact LeO.none _
   | refine LeO.ite ?_ ?_
   | refine LeO.bind ?_ (fun _ => ?_)
set_option maxHeartbeats 8000000 in
set_option maxRecDepth 100000 in
theorem reedsol_Stripe.calls (k : Nat) (a0_0 : Int) (a0_1 : Int) (a0_2 : Int) (a0_3 : Int) (A1 : Option Addr) (c1 : Nat) (l1 : List Int) (a2 : Int) (r1 : List Int) (r2 : Int) (w : World) (hr1 : Kd.C (Kd.int .u8) w A1 l1.length l1) (hc1 : l1.length ≤ c1) (h : reedsol_Stripe.f k a0_0 a0_1 a0_2 a0_3 l1 a2 = some (r1,r2)) :
  Calls Try.prog 14 #[.agg #[.int .i64 a0_0,.int .u64 a0_1,.int .i64 a0_2,.int .i64 a0_3],.slice A1 l1.length c1,.int .i64 a2] w fun e w' => ∃ v0_ : Value,e = .returned (.tuple #[v0_,.int .i64 r2]) ∧ Kd.R (Kd.int .u8) 5 w' w.heap.size (fun _ => True) v0_ r1 ∧ Below w.heap.size w w' := by
 have hu26 := Try.underlying26
 have HR1 := Aside0.mk hr1
 have HC1 := Aside0.mk hc1
 clear hr1 hc1
 have HB := aK (Below.refl w.heap.size w)
 have H : ((reedsol_open.f k a0_0 a0_1 a0_2 a0_3).bind fun bt475 => (if bt475.2 = 0 then (if a2 < 1 then (reedsol_Stripe.j0 k l1 a2 bt475.1 true a0_0 a0_1 a0_2 a0_3) else (reedsol_Stripe.j0 k l1 a2 bt475.1 (decide (a2 > 64)) a0_0 a0_1 a0_2 a0_3)) else (some (([] : List Int),bt475.2)))) = some (r1,r2) := h
 clear h
 replace H := Option.bind_eq_some_iff.mp H
 obtain ⟨⟨t475,t478⟩,A40,H⟩ := H
 try dsimp only at H
 have A4 := Aside0.mk A40
 clear A40
 by_cases c5 : t478 = 0
 rotate_left
 ·rw [if_neg c5] at H
  have c5b0 : (t478 == 0) = false := beq_eq_false_iff_ne.mpr c5
  have c5b1 : (t478 != 0) = true := bne_iff_ne.mpr c5
  simp only [Option.some.injEq,Prod.mk.injEq] at H
  obtain ⟨rfl,rfl⟩ := H
  go_enter Try.func14,Try.ntmps14
  go_wp2_with (first | ((with_reducible refine gate_dst (N := 3) rfl ?_); refine box_event ?hg (N := 3) ?hd (cs := #[.int .i64 a0_0,.int .u64 a0_1,.int .i64 a0_2,.int .i64 a0_3]) (t := 26) ?hr ?_; (case hd => rfl); (case hg => rfl); (case hr => first | (go_simp; done) | (go_simp; rfl)); intro gb474 hg w40 hbox hb; have BK474 := aK (hbox); have GW474 := aK ((by rw [hg]; exact (below_size (mvh HB.out)) : w.heap.size ≤ gb474)); have GE474 := aK ((by rw [hg]; exact (below_size (mvh HB.out)) : w.heap.size ≤ gb474)); replace HB := aK (below_step (mvh HB.out) hb); clear hb hbox hg; obtain ⟨hcz41_0,hcz41_1,hcz41_2,hcz41_3,hfz41_0,hfz41_1,hfz41_2,hfz41_3⟩ := cf4 BK474.out) | (go_at_call 26; (with_reducible refine (reedsol_open.calls k a0_0 a0_1 a0_2 a0_3 t475 t478 _ A4.out).mono ?_); rintro e w ⟨Ap476,rfl,hT_,hb⟩; replace BK474 := aK (kb BK474.out hb); replace HR1 := aK (Kd.C_below HR1.out (below_step (mvh HB.out) hb)); have HB00 := aK (below_step (mvh HB.out) hb); replace HB := aK (Below.refl w.heap.size w); have HT477 := Aside0.mk hT_; clear hb hT_) | go_quiet (fail))
  go_ret2
  exact ⟨_,by first | rfl | (simp [errW_none,errW_some] <;> rfl) | (simp [*,errW_none,errW_some] <;> rfl),Kd.R_lower (by first | exact Kd.R_nil _ _ _ _ _ | exact Kd.N_nil _ _ _ _ _ | exact Kd.V_nil _ _ _ _ _ | exact Kd.Q_nil _ _ _ _ _ | exact Kd.S_nil _ _ _ _ _) HB00.out.size,below_step HB00.out (mvh HB.out)⟩


 rw [if_pos c5] at H
 have c5b0 : (t478 == 0) = true := beq_iff_eq.mpr c5
 have c5b1 : (t478 != 0) = false := bne_eq_false_iff_eq.mpr c5
 clear c5
 have HC6 := Aside0.mk H
 clear H
 go_enter Try.func14,Try.ntmps14
 go_upto_region 4 with (first | ((with_reducible refine gate_dst (N := 3) rfl ?_); refine box_event ?hg (N := 3) ?hd (cs := #[.int .i64 a0_0,.int .u64 a0_1,.int .i64 a0_2,.int .i64 a0_3]) (t := 26) ?hr ?_; (case hd => rfl); (case hg => rfl); (case hr => first | (go_simp; done) | (go_simp; rfl)); intro gb474 hg w7 hbox hb; have BK474 := aK (hbox); have GW474 := aK ((by rw [hg]; exact (below_size (mvh HB.out)) : w.heap.size ≤ gb474)); have GE474 := aK ((by rw [hg]; exact (below_size (mvh HB.out)) : w.heap.size ≤ gb474)); replace HB := aK (below_step (mvh HB.out) hb); clear hb hbox hg; obtain ⟨hcz8_0,hcz8_1,hcz8_2,hcz8_3,hfz8_0,hfz8_1,hfz8_2,hfz8_3⟩ := cf4 BK474.out) | (go_at_call 26; (with_reducible refine (reedsol_open.calls k a0_0 a0_1 a0_2 a0_3 t475 t478 _ A4.out).mono ?_); rintro e w ⟨Ap476,rfl,hT_,hb⟩; replace BK474 := aK (kb BK474.out hb); replace HR1 := aK (Kd.C_below HR1.out (below_step (mvh HB.out) hb)); have HB00 := aK (below_step (mvh HB.out) hb); replace HB := aK (Below.refl w.heap.size w); have HT477 := Aside0.mk hT_; clear hb hT_))
 repeat (go_quiet (first | ((with_reducible refine gate_dst (N := 3) rfl ?_); refine box_event ?hg (N := 3) ?hd (cs := #[.int .i64 a0_0,.int .u64 a0_1,.int .i64 a0_2,.int .i64 a0_3]) (t := 26) ?hr ?_; (case hd => rfl); (case hg => rfl); (case hr => first | (go_simp; done) | (go_simp; rfl)); intro gb474 hg w7 hbox hb; have BK474 := aK (hbox); have GW474 := aK ((by rw [hg]; exact (below_size (mvh HB.out)) : w.heap.size ≤ gb474)); have GE474 := aK ((by rw [hg]; exact (below_size (mvh HB.out)) : w.heap.size ≤ gb474)); replace HB := aK (below_step (mvh HB.out) hb); clear hb hbox hg; obtain ⟨hcz8_0,hcz8_1,hcz8_2,hcz8_3,hfz8_0,hfz8_1,hfz8_2,hfz8_3⟩ := cf4 BK474.out) | (go_at_call 26; (with_reducible refine (reedsol_open.calls k a0_0 a0_1 a0_2 a0_3 t475 t478 _ A4.out).mono ?_); rintro e w ⟨Ap476,rfl,hT_,hb⟩; replace BK474 := aK (kb BK474.out hb); replace HR1 := aK (Kd.C_below HR1.out (below_step (mvh HB.out) hb)); have HB00 := aK (below_step (mvh HB.out) hb); replace HB := aK (Below.refl w.heap.size w); have HT477 := Aside0.mk hT_; clear hb hT_)); go_upto_region 4 with (first | ((with_reducible refine gate_dst (N := 3) rfl ?_); refine box_event ?hg (N := 3) ?hd (cs := #[.int .i64 a0_0,.int .u64 a0_1,.int .i64 a0_2,.int .i64 a0_3]) (t := 26) ?hr ?_; (case hd => rfl); (case hg => rfl); (case hr => first | (go_simp; done) | (go_simp; rfl)); intro gb474 hg w7 hbox hb; have BK474 := aK (hbox); have GW474 := aK ((by rw [hg]; exact (below_size (mvh HB.out)) : w.heap.size ≤ gb474)); have GE474 := aK ((by rw [hg]; exact (below_size (mvh HB.out)) : w.heap.size ≤ gb474)); replace HB := aK (below_step (mvh HB.out) hb); clear hb hbox hg; obtain ⟨hcz8_0,hcz8_1,hcz8_2,hcz8_3,hfz8_0,hfz8_1,hfz8_2,hfz8_3⟩ := cf4 BK474.out) | (go_at_call 26; (with_reducible refine (reedsol_open.calls k a0_0 a0_1 a0_2 a0_3 t475 t478 _ A4.out).mono ?_); rintro e w ⟨Ap476,rfl,hT_,hb⟩; replace BK474 := aK (kb BK474.out hb); replace HR1 := aK (Kd.C_below HR1.out (below_step (mvh HB.out) hb)); have HB00 := aK (below_step (mvh HB.out) hb); replace HB := aK (Below.refl w.heap.size w); have HT477 := Aside0.mk hT_; clear hb hT_)))
 (try simp only [Act.put,List.setIfInBounds_toArray,List.set_cons_zero,List.set_cons_succ])
 go_cut [21] (fun v21 wc => ∃ (kq : Nat) (x21_5 : Bool),v21 = .bool x21_5 ∧ Aside0 (reedsol_Stripe.j0 kq l1 a2 t475 x21_5 a0_0 a0_1 a0_2 a0_3 = some (r1,r2)) ∧ Aside0 (kq ≤ k) ∧ Aside0 (wc.heap[gb474]? = some (.cells #[.int .i64 a0_0,.int .u64 a0_1,.int .i64 a0_2,.int .i64 a0_3] 26 (0,0))) ∧ Aside0 (Below w.heap.size w wc))
 case first =>
  have H := HC6.out
  clear HC6
  by_cases c10 : a2 < 1
  ·rw [if_pos c10] at H
   have c10b0 : decide (a2 < 1) = true := decide_eq_true c10
   clear c10
   (first | rw [c10b0] | (simp only [i64_w,i32_w]; rw [c10b0]) | rw [c10b1] | skip)
   have H' := Aside0.mk H
   clear H
   go_wp2
   repeat (go_quiet (fail); try go_wp2)
   go_meet
   case rel => exact ⟨_,(true),(by first | rfl | (simp; done) | (simp [*]; done) | (simp [wrap64]; done)),H',⟨by first | omega | exact Nat.le_refl _⟩,⟨mvb BK474.out⟩,⟨mvh HB.out⟩⟩
  ·rw [if_neg c10] at H
   have c10b0 : decide (a2 < 1) = false := decide_eq_false c10
   clear c10
   (first | rw [c10b0] | (simp only [i64_w,i32_w]; rw [c10b0]) | rw [c10b1] | skip)
   have H' := Aside0.mk H
   clear H
   go_wp2
   repeat (go_quiet (fail); try go_wp2)
   go_meet
   case rel => exact ⟨_,(decide (a2 > 64)),(by first | rfl | (simp; done) | (simp [*]; done) | (simp [wrap64]; done)),H',⟨by first | omega | exact Nat.le_refl _⟩,⟨mvb BK474.out⟩,⟨mvh HB.out⟩⟩
 case rest =>
  clear HC6
  (try clear c1); (try clear p2); (try clear p4); (try clear c5); (try clear c5b0); (try clear c5b1); (try clear p6); (try clear c10); (try clear c10b0); (try clear c10b1); (try clear hcz8_0); (try clear hcz8_1); (try clear hcz8_2); (try clear hcz8_3); (try clear hfz8_0); (try clear hfz8_1); (try clear hfz8_2)
  try clear hfz8_3
  obtain ⟨kq,x21_5,rfl,HA,HJ5,BK474,HB⟩ := hcut
  cases kq with
  | zero => exact absurd HA.out (by simp [reedsol_Stripe.j0])
  | succ kj5 =>
   have H := HA.out
   clear HA
   simp only [reedsol_Stripe.j0] at H
   by_cases c11 : x21_5 = true
   ·subst c11
    have H1 : (some (([] : List Int),1)) = some (r1,r2) := by rw [if_pos rfl] at H; exact H
    clear H
    have H := H1
    clear H1
    simp only [Option.some.injEq,Prod.mk.injEq] at H
    obtain ⟨rfl,rfl⟩ := H
    go_wp2
    repeat (go_quiet (fail); try go_wp2)
    go_ret2
    exact ⟨_,by first | rfl | (simp [errW_none,errW_some] <;> rfl) | (simp [*,errW_none,errW_some] <;> rfl),Kd.R_lower (by first | exact Kd.R_nil _ _ _ _ _ | exact Kd.N_nil _ _ _ _ _ | exact Kd.V_nil _ _ _ _ _ | exact Kd.Q_nil _ _ _ _ _ | exact Kd.S_nil _ _ _ _ _) HB00.out.size,below_step HB00.out (mvh HB.out)⟩
   ·replace c11 := Bool.eq_false_iff.mpr c11
    subst c11
    have H1 : (if a2 = 0 then (none) else (if ((l1.length : Int) % a2) = 0 then (if 0 < t475.size then (if (wrap64 ((l1.length : Int) / a2)) > (wrap64 ((wrap64 ((t475.size : Int) - 1)) - a0_3)) then (some (([] : List Int),6)) else ((reedsol_code_right.f kj5 t475 l1).bind fun t479 => (if t479 = true then (if 0 ≤ a2 then (if (a2 : Int).toNat ≤ 11728124029610 then ((some (List.replicate (a2 : Int).toNat [] : List (List Int))).bind fun y480 => (reedsol_Stripe.l0 kj5 l1 a2 t475 y480 (y480.length : Int) 0)) else (none)) else (none)) else (some (([] : List Int),11))))) else (none)) else (some (([] : List Int),5)))) = some (r1,r2) := by rw [if_neg (show ¬ (false = true) by decide)] at H; exact H
    clear H
    have H := H1
    clear H1
    by_cases c12 : a2 = 0
    ·rw [if_pos c12] at H
     exact absurd H (by simp)
    ·rw [if_neg c12] at H
     have c12b0 : (a2 == 0) = false := beq_eq_false_iff_ne.mpr c12
     have c12b1 : (a2 != 0) = true := bne_iff_ne.mpr c12
     by_cases c13 : ((l1.length : Int) % a2) = 0
     rotate_left
     ·rw [if_neg c13] at H
      have c13b0 : (((l1.length : Int) % a2) == 0) = false := beq_eq_false_iff_ne.mpr c13
      have c13b1 : (((l1.length : Int) % a2) != 0) = true := bne_iff_ne.mpr c13
      simp only [Option.some.injEq,Prod.mk.injEq] at H
      obtain ⟨rfl,rfl⟩ := H
      go_wp2
      repeat (go_quiet (fail); try go_wp2)
      go_ret2
      exact ⟨_,by first | rfl | (simp [errW_none,errW_some] <;> rfl) | (simp [*,errW_none,errW_some] <;> rfl),Kd.R_lower (by first | exact Kd.R_nil _ _ _ _ _ | exact Kd.N_nil _ _ _ _ _ | exact Kd.V_nil _ _ _ _ _ | exact Kd.Q_nil _ _ _ _ _ | exact Kd.S_nil _ _ _ _ _) HB00.out.size,below_step HB00.out (mvh HB.out)⟩
     rw [if_pos c13] at H
     have c13b0 : (((l1.length : Int) % a2) == 0) = true := beq_iff_eq.mpr c13
     have c13b1 : (((l1.length : Int) % a2) != 0) = false := bne_eq_false_iff_eq.mpr c13
     clear c13
     by_cases c14 : 0 < t475.size
     rotate_left
     ·rw [if_neg c14] at H
      exact absurd H (by simp)
     rw [if_pos c14] at H
     obtain ⟨b_,p_,c_,d_,g_,rfl,hQ_⟩ := rs_pos HT477.out c14
     have HQ477 := Aside0.mk hQ_
     clear hQ_ c14
     by_cases c16 : (wrap64 ((l1.length : Int) / a2)) > (wrap64 ((wrap64 ((t475.size : Int) - 1)) - a0_3))
     ·rw [if_pos c16] at H
      have c16b0 : decide ((wrap64 ((wrap64 ((t475.size : Int) - 1)) - a0_3)) < (wrap64 ((l1.length : Int) / a2))) = true := decide_eq_true c16
      clear c16
      simp only [Option.some.injEq,Prod.mk.injEq] at H
      obtain ⟨rfl,rfl⟩ := H
      have ho15 := rs_At_size HQ477.out
      have hx15 := (HB.out.cell (World.block_lt_of_cell? w _ ho15)).trans ho15
      obtain ⟨hcz17_0,hcz17_1,hcz17_2,hcz17_3,hfz17_0,hfz17_1,hfz17_2,hfz17_3⟩ := cf4 BK474.out
      go_wp2
      repeat (go_quiet (fail); try go_wp2)
      go_ret2
      exact ⟨_,by first | rfl | (simp [errW_none,errW_some] <;> rfl) | (simp [*,errW_none,errW_some] <;> rfl),Kd.R_lower (by first | exact Kd.R_nil _ _ _ _ _ | exact Kd.N_nil _ _ _ _ _ | exact Kd.V_nil _ _ _ _ _ | exact Kd.Q_nil _ _ _ _ _ | exact Kd.S_nil _ _ _ _ _) HB00.out.size,below_step HB00.out (mvh HB.out)⟩
     ·rw [if_neg c16] at H
      have c16b0 : decide ((wrap64 ((wrap64 ((t475.size : Int) - 1)) - a0_3)) < (wrap64 ((l1.length : Int) / a2))) = false := decide_eq_false c16
      clear c16
      replace H := Option.bind_eq_some_iff.mp H
      obtain ⟨t479,A180,H⟩ := H
      try dsimp only at H
      have A18 := Aside0.mk A180
      clear A180
      by_cases c19 : t479 = true
      rotate_left
      ·replace c19 := Bool.eq_false_iff.mpr c19
       subst c19
       have H1 : (some (([] : List Int),11)) = some (r1,r2) := by rw [if_neg (show ¬ (false = true) by decide)] at H; exact H
       clear H
       have H := H1
       clear H1
       simp only [Option.some.injEq,Prod.mk.injEq] at H
       obtain ⟨rfl,rfl⟩ := H
       have ho15 := rs_At_size HQ477.out
       have hx15 := (HB.out.cell (World.block_lt_of_cell? w _ ho15)).trans ho15
       obtain ⟨hcz39_0,hcz39_1,hcz39_2,hcz39_3,hfz39_0,hfz39_1,hfz39_2,hfz39_3⟩ := cf4 BK474.out
       go_wp2_with (first | (go_at_call 27; (with_reducible refine (reedsol_code_right.calls kj5 _ t475 _ _ l1 false _ ?side1 ?side2 ?side3 A18.out).mono ?_); (case side1 => exact (rs_OK_below HT477.out (mvh HB.out))); (case side2 => exact Kd.C_below HR1.out (mvh HB.out)); (case side3 => exact HC1.out); rintro e w' ⟨rfl,⟨nd,rfl⟩⟩; (try first | exact ⟨rfl,_,World.drewN_drewN _ _ _⟩ | exact ⟨rfl,_,Eq.trans (World.drewN_drewN _ _ _) (congrArg (World.drewN _) (Nat.add_assoc _ _ _))⟩)) | go_quiet (first | (go_at_call 27; (with_reducible refine (reedsol_code_right.calls kj5 _ t475 _ _ l1 false _ ?side1 ?side2 ?side3 A18.out).mono ?_); (case side1 => exact (rs_OK_below HT477.out (mvh HB.out))); (case side2 => exact Kd.C_below HR1.out (mvh HB.out)); (case side3 => exact HC1.out); rintro e w' ⟨rfl,⟨nd,rfl⟩⟩; (try first | exact ⟨rfl,_,World.drewN_drewN _ _ _⟩ | exact ⟨rfl,_,Eq.trans (World.drewN_drewN _ _ _) (congrArg (World.drewN _) (Nat.add_assoc _ _ _))⟩))))
       go_ret2
       exact ⟨_,by first | rfl | (simp [errW_none,errW_some] <;> rfl) | (simp [*,errW_none,errW_some] <;> rfl),Kd.R_lower (by first | exact Kd.R_nil _ _ _ _ _ | exact Kd.N_nil _ _ _ _ _ | exact Kd.V_nil _ _ _ _ _ | exact Kd.Q_nil _ _ _ _ _ | exact Kd.S_nil _ _ _ _ _) HB00.out.size,below_step HB00.out (mvh HB.out)⟩
      subst c19
      have H1 : (if 0 ≤ a2 then (if (a2 : Int).toNat ≤ 11728124029610 then ((some (List.replicate (a2 : Int).toNat [] : List (List Int))).bind fun y480 => (reedsol_Stripe.l0 kj5 l1 a2 t475 y480 (y480.length : Int) 0)) else (none)) else (none)) = some (r1,r2) := by rw [if_pos rfl] at H; exact H
      clear H
      have H := H1
      clear H1
      by_cases c20 : 0 ≤ a2
      rotate_left
      ·rw [if_neg c20] at H
       exact absurd H (by simp)
      rw [if_pos c20] at H
      have c20b0 := eq_true c20
      have c20b1 : decide (0 ≤ a2) = true := decide_eq_true c20
      clear c20
      by_cases c21 : (a2 : Int).toNat ≤ 11728124029610
      rotate_left
      ·rw [if_neg c21] at H
       exact absurd H (by simp)
      rw [if_pos c21] at H
      have c21b0 := eq_true c21
      have c21b1 : decide ((a2 : Int).toNat ≤ 11728124029610) = true := decide_eq_true c21
      clear c21
      obtain ⟨y480,hy480⟩ : ∃ y_ : List (List Int),y_ = (List.replicate (a2 : Int).toNat []) := ⟨_,rfl⟩
      replace H : (reedsol_Stripe.l0 kj5 l1 a2 t475 y480 (y480.length : Int) 0) = some (r1,r2) := by rw [hy480]; exact H
      have Ny480 := Aside0.mk hy480
      clear hy480
      have H' := Aside0.mk H
      clear H
      have ho15 := rs_At_size HQ477.out
      have hx15 := (HB.out.cell (World.block_lt_of_cell? w _ ho15)).trans ho15
      obtain ⟨hcz22_0,hcz22_1,hcz22_2,hcz22_3,hfz22_0,hfz22_1,hfz22_2,hfz22_3⟩ := cf4 BK474.out
      go_wp2_with (first | (go_at_call 27; (with_reducible refine (reedsol_code_right.calls kj5 _ t475 _ _ l1 true _ ?side1 ?side2 ?side3 A18.out).mono ?_); (case side1 => exact (rs_OK_below HT477.out (mvh HB.out))); (case side2 => exact Kd.C_below HR1.out (mvh HB.out)); (case side3 => exact HC1.out); rintro e w' ⟨rfl,⟨nd,rfl⟩⟩; (try first | exact ⟨rfl,_,World.drewN_drewN _ _ _⟩ | exact ⟨rfl,_,Eq.trans (World.drewN_drewN _ _ _) (congrArg (World.drewN _) (Nat.add_assoc _ _ _))⟩)) | ((with_reducible refine gate_dst (N := 54) rfl ?_); refine Kd.S_make (Kd.slice 5 (Kd.int .u8)) _ 27 rfl (N := 54) rfl 76 _ _ rfl a2 rfl rfl Try.underlying76 (.slice none 0 0) 24 info27 rfl (by decide) (by omega) [] (ok := fun _ => True) (okp := fun _ => True) ⟨_,rfl,Kd.R_nil _ _ _ _ _⟩ (fun _ hk => hk) trivial oD (Nat.le_trans (Nat.mul_le_mul_right _ (oD : a2.toNat ≤ 11728124029610)) (by omega)) (Below.refl _ _) (Nat.le_refl _) ?_; intro v481 w23 ho24 hb hg_ hnew_; clear hg_ hnew_; (first | rw [← Ny480.out] at ho24 | (simp only [Int.reduceToNat] at ho24; rw [← Ny480.out] at ho24)); have HO482 := aK (Kd.S_lower ho24 (below_size (mvh HB.out))); replace BK474 := aK (kb BK474.out hb); replace HB := aK (below_step (mvh HB.out) hb); clear hb ho24; obtain ⟨Ao25,co25,eo25⟩ := Kd.S_slice HO482.out; subst eo25) | go_quiet (first | (go_at_call 27; (with_reducible refine (reedsol_code_right.calls kj5 _ t475 _ _ l1 true _ ?side1 ?side2 ?side3 A18.out).mono ?_); (case side1 => exact (rs_OK_below HT477.out (mvh HB.out))); (case side2 => exact Kd.C_below HR1.out (mvh HB.out)); (case side3 => exact HC1.out); rintro e w' ⟨rfl,⟨nd,rfl⟩⟩; (try first | exact ⟨rfl,_,World.drewN_drewN _ _ _⟩ | exact ⟨rfl,_,Eq.trans (World.drewN_drewN _ _ _) (congrArg (World.drewN _) (Nat.add_assoc _ _ _))⟩))))
      go_loopg [57] kj5 (fun kq v57 w' => ∃ (x10_2 : List (List Int)) (x57_2 : Int),v57 = .int .i64 x57_2 ∧ Aside0 (reedsol_Stripe.l0 kq l1 a2 t475 x10_2 (y480.length : Int) x57_2 = some (r1,r2)) ∧ Aside0 (kq ≤ kj5) ∧ Aside0 (Kd.S (Kd.slice 5 (Kd.int .u8)) 27 w' w.heap.size (fun _ => True) (.slice Ao25 y480.length co25) x10_2) ∧ Aside0 (w'.heap[gb474]? = some (.cells #[.int .i64 a0_0,.int .u64 a0_1,.int .i64 a0_2,.int .i64 a0_3] 26 (0,0))) ∧ Aside0 (Below w.heap.size w w'))
      case atStart => exact ⟨(y480),(0),(by first | rfl | (simp; done) | (simp [*]; done) | (simp [wrap64]; done)),H',⟨Nat.le_refl _⟩,⟨by (with_reducible repeat (first | apply Kd.S_alloc | apply Kd.S_drewN | apply Kd.S_drew)); exact HO482.out⟩,⟨mvb BK474.out⟩,⟨mvh HB.out⟩⟩
      case round =>
       clear H'
       (try clear c1); (try clear hx1); (try clear c2); (try clear p2); (try clear p4); (try clear c5); (try clear c5b0); (try clear c5b1); (try clear p6); (try clear c10); (try clear c10b0); (try clear c10b1); (try clear c11); (try clear c12); (try clear c12b0); (try clear c12b1); (try clear c13)
       (try clear c13b0); (try clear c13b1); (try clear c14); (try clear hx15); (try clear c16); (try clear c16b0); (try clear c19); (try clear c20); (try clear c20b0); (try clear c20b1); (try clear c21); (try clear c21b0); (try clear c21b1); (try clear hcz17_0); (try clear hcz17_1); (try clear hcz17_2)
       (try clear hcz17_3); (try clear hcz22_0); (try clear hcz22_1); (try clear hcz22_2); (try clear hcz22_3); (try clear hcz8_0); (try clear hcz8_1); (try clear hcz8_2); (try clear hcz8_3); (try clear hfz17_0); (try clear hfz17_1); (try clear hfz17_2); (try clear hfz17_3); (try clear hfz22_0)
       (try clear hfz22_1); (try clear hfz22_2); (try clear hfz22_3); (try clear hfz8_0); (try clear hfz8_1); (try clear hfz8_2); (try clear hfz8_3); (try clear p2); (try clear p4); (try clear p6)
       obtain ⟨x10_2,x57_2,rfl,HA,HK2,HO_10,BK474,HB⟩ := hrel
       have hl10_2 := (Kd.S_reads' HO_10.out).1
       rw [hl10_2] at HO_10
       (try simp only [hl10_2])
       (try simp only [hl10_2] at BK474)
       cases gk with
       | zero => exact absurd HA.out (by simp [reedsol_Stripe.l0])
       | succ k2 =>
        have H := HA.out
        clear HA
        simp only [reedsol_Stripe.l0] at H
        by_cases c26 : x57_2 < (y480.length : Int)
        rotate_left
        ·rw [if_neg c26] at H
         have c26b0 : decide (x57_2 < (y480.length : Int)) = false := decide_eq_false c26
         (try simp only [hl10_2] at c26b0)
         clear c26
         replace H := Option.bind_eq_some_iff.mp H
         obtain ⟨t490,A370,H⟩ := H
         replace H : (some (t490,0)) = some (r1,r2) := H
         have A37 := Aside0.mk A370
         clear A370
         simp only [Option.some.injEq,Prod.mk.injEq] at H
         obtain ⟨rfl,rfl⟩ := H
         go_wp2_with (first | (go_at_call 33; (with_reducible refine (reedsol_together.calls k2 _ _ x10_2 t490 _ ?side1 ?side2 A37.out).mono ?_); (case side1 => exact mvC (Kd.S_reads' HO_10.out).2.2); (case side2 => exact (Kd.S_reads' HO_10.out).2.1); rintro e w38 ⟨v491,rfl,ho0,hb⟩; replace HO_10 := aK (Kd.S_elder' (by (with_reducible repeat (first | apply Kd.S_alloc | apply Kd.S_drewN | apply Kd.S_drew)); exact HO_10.out) (Kd.R_base ho0) hb); have HO492 := aK (Kd.R_lower ho0 (below_size (mvh HB.out))); replace BK474 := aK (kb BK474.out hb); replace HB := aK (below_step (mvh HB.out) hb); (try clear hb); (try clear ho0)) | go_quiet (fail))
         go_ret2
         exact ⟨_,by first | rfl | (simp [errW_none,errW_some] <;> rfl) | (simp [*,errW_none,errW_some] <;> rfl),Kd.R_lower (mvR HO492.out) HB00.out.size,below_step HB00.out (mvh HB.out)⟩
        rw [if_pos c26] at H
        have c26b0 : decide (x57_2 < (y480.length : Int)) = true := decide_eq_true c26
        (try simp only [hl10_2] at c26b0)
        clear c26
        replace H := Option.bind_eq_some_iff.mp H
        obtain ⟨t483,A270,H⟩ := H
        try dsimp only at H
        have A27 := Aside0.mk A270
        clear A270
        replace H := Option.bind_eq_some_iff.mp H
        obtain ⟨t486,A280,H⟩ := H
        try dsimp only at H
        have A28 := Aside0.mk A280
        clear A280
        by_cases c29 : 0 ≤ x57_2
        rotate_left
        ·rw [if_neg c29] at H
         exact absurd H (by simp)
        rw [if_pos c29] at H
        have c29b0 : decide (0 ≤ x57_2) = true := decide_eq_true c29
        clear c29
        by_cases c30 : x57_2 < (x10_2.length : Int)
        rotate_left
        ·rw [if_neg c30] at H
         exact absurd H (by simp)
        rw [if_pos c30] at H
        have c30b0 : decide (x57_2 < (x10_2.length : Int)) = true := decide_eq_true c30
        (try simp only [hl10_2] at c30b0)
        clear c30
        obtain ⟨y489,hy489⟩ : ∃ y_ : List (List Int),y_ = (x10_2.set (x57_2 : Int).toNat t486) := ⟨_,rfl⟩
        replace H : (reedsol_Stripe.l0 k2 l1 a2 t475 y489 (y480.length : Int) (wrap64 (x57_2 + 1))) = some (r1,r2) := by rw [hy489]; exact H
        have Ny489 := Aside0.mk hy489
        clear hy489
        have H' := Aside0.mk H
        clear H
        go_wp2_with (first | (go_at_call 32; (with_reducible refine (reedsol_apart.calls k2 _ _ l1 x57_2 a2 t483 _ ?side1 ?side2 A27.out).mono ?_); (case side1 => exact Kd.C_below HR1.out (mvh HB.out)); (case side2 => exact HC1.out); rintro e w32 ⟨v484,rfl,ho0,hb⟩; replace HO_10 := aK (Kd.S_elder' (by (with_reducible repeat (first | apply Kd.S_alloc | apply Kd.S_drewN | apply Kd.S_drew)); exact HO_10.out) (Kd.R_base ho0) hb); have HO485 := aK (Kd.R_lower ho0 (below_size (mvh HB.out))); replace BK474 := aK (kb BK474.out hb); replace HB := aK (below_step (mvh HB.out) hb); (try clear hb); (try clear ho0); obtain ⟨Ao33,co33,eo33⟩ := Kd.R_slice HO485.out; subst eo33) | (go_at_call 28; (with_reducible refine (reedsol_code_encode.calls k2 _ t475 _ _ t483 t486 _ ?side1 ?side2 ?side3 A28.out).mono ?_); (case side1 => exact (rs_OK_below HT477.out (mvh HB.out))); (case side2 => exact mvC (Kd.R_reads' HO485.out).2.2); (case side3 => exact (Kd.R_reads' HO485.out).2.1); rintro e w34 ⟨v487,rfl,ho0,hb⟩; replace HO_10 := aK (Kd.S_elder' (by (with_reducible repeat (first | apply Kd.S_alloc | apply Kd.S_drewN | apply Kd.S_drew)); exact HO_10.out) (Kd.R_base ho0) hb); have HO488 := aK (Kd.R_lower (Kd.R_new' ho0 (Kd.R_lt (mvR HO485.out))) (below_size (mvh HB.out))); replace HO485 := aK (Kd.R_elder' (mvR HO485.out) (Kd.R_base ho0) hb); replace BK474 := aK (kb BK474.out hb); replace HB := aK (below_step (mvh HB.out) hb); (try clear hb); (try clear ho0); have p31 : 0 ≤ (x57_2 : Int) := oD; have q31 : (x57_2 : Int) < ((x10_2.length : Int) : Int) := oD; obtain ⟨go31,co31,eo31,gb31,gl31,cl31,HG31⟩ := Kd.S_form HO_10.out (by omega); (first | cases eo31 | (injection eo31 with ea_ en_ ec_; (first | subst ea_ | (injection ea_ with ea_; subst ea_)); subst ec_; clear en_)); have GB31 := Aside0.mk gb31; have GG31 := Aside0.mk HG31; clear gb31 gl31 HG31; obtain ⟨_,ce31,hcl31,hM31,hcc31,hfr31,_,_⟩ := Kd.S_elem HO_10.out [] (x57_2 : Int) p31 q31; obtain ⟨ve31_0,rfl,ge31_0⟩ := hM31; have hx31_0 := hcc31 0 _ rfl; have hf31_0 := hfr31 0; (try simp only [show ((Kd.slice 5 (Kd.int .u8))).sz = 1 from rfl,Nat.mul_one,Nat.add_zero] at hx31_0); (try simp only [show ((Kd.slice 5 (Kd.int .u8))).sz = 1 from rfl,Nat.mul_one,Nat.add_zero] at hf31_0); clear hcl31 hcc31 hfr31; (try clear hM31); replace p31 := eq_true p31; replace q31 := eq_true q31; have n_ := aK (Kd.S_mono (ok' := (fun k_ => some k_ ≠ (.slice Ao33 t483.length co33 : Value).ownBlock ∧ some k_ ≠ (v487 : Value).ownBlock)) HO_10.out (fun k_ hk => ⟨hk.1.2,hk.2⟩)); clear HO_10; have HO_10 := n_; clear n_; have HX35 := aK (show Kd.S (Kd.slice 5 (Kd.int .u8)) 27 w34 w.heap.size (fun k_ => ((fun k_ => some k_ ≠ (.slice Ao33 t483.length co33 : Value).ownBlock)) k_ ∧ ¬ ((fun k_ => some k_ = (v487 : Value).ownBlock)) k_) (.slice (some ⟨go31,0,none⟩) x10_2.length co25) x10_2 from (by (with_reducible repeat (first | apply Kd.S_alloc | apply Kd.S_drewN | apply Kd.S_drew)); exact Kd.S_mono HO_10.out (fun k_ hk => ⟨hk.1,fun e_ => hk.2 (by first | exact e_ | exact e_.trans ob_len)⟩))); obtain ⟨oki35,ce35,hcl35,hM35,hcc35,hfr35,hoki35,hH35⟩ := Kd.S_elem HX35.out [] (x57_2 : Int) oD (by have h_ : (x57_2 : Int) < ((x10_2.length : Int) : Int) := oD; first | exact h_ | (have e_ := (Kd.S_reads' HO_10.out).1; omega) | simpa using h_); obtain ⟨ve35_0,rfl,ge35_0⟩ := hM35; have HP35 := Kd.S_seg hH35 oD (by have h_ : (x57_2 : Int) < ((x10_2.length : Int) : Int) := oD; first | exact h_ | (have e_ := (Kd.S_reads' HO_10.out).1; omega) | simpa using h_) (seg := [v487]) (j := 0) (show 1 ≤ 1 from by decide) (x' := t486) (Kd.M_row (Kd.R_mono (Kd.R_tight rfl (Kd.R_mono (ok' := fun k_ => ((fun k_ => some k_ ≠ (.slice Ao33 t483.length co33 : Value).ownBlock)) k_ ∧ k_ ≠ go31) (Kd.R_apart' (HO488.out) (Kd.S_typed HO_10.out) (by decide)) (fun k_ hk => ⟨hk.1.2,fun e_ => (hk.2) (by rw [e_]; rfl)⟩))) (fun _ h_ => Or.inr (h_)))) (fun _ hk => hk) (fun k_ hk_ => ((Kd.R_mono (ok' := fun k_ => ((fun k_ => some k_ ≠ (.slice Ao33 t483.length co33 : Value).ownBlock)) k_ ∧ k_ ≠ go31) (Kd.R_apart' (HO488.out) (Kd.S_typed HO_10.out) (by decide)) (fun k_ hk => ⟨hk.1.2,fun e_ => (hk.2) (by rw [e_]; rfl)⟩))).1 k_ hk_.symm); have hx35_0 := hcc35 0 _ rfl; (try simp only [show ((Kd.slice 5 (Kd.int .u8))).sz = 1 from rfl,Nat.mul_one,Nat.add_zero] at hx35_0); have hf35_0 := hfr35 0; (try simp only [show ((Kd.slice 5 (Kd.int .u8))).sz = 1 from rfl,Nat.mul_one,Nat.add_zero] at hf35_0); clear hcl35 hcc35 hfr35 hoki35 hH35; (try clear hM35); (try simp only [show ((Kd.slice 5 (Kd.int .u8))).sz = 1 from rfl,Nat.mul_one,Nat.add_zero] at HP35)) | ((with_reducible refine gate_store (t := 27) (p := 68) rfl ?_); (try (rw [drewN_self w34]; generalize hq_ : World.drewN w34 _ = w34; replace HO_10 := aK (Kd.S_at hq_ HO_10.out); replace HO485 := aK (Kd.R_at hq_ HO485.out); replace BK474 := aK (blk_at hq_ BK474.out); replace HB := aK (below_at hq_ HB.out); clear hq_; (try (have n_ := aK (Kd.S_mono (ok' := (fun k_ => some k_ ≠ (.slice Ao33 t483.length co33 : Value).ownBlock ∧ some k_ ≠ (v487 : Value).ownBlock)) HO_10.out (fun k_ hk => ⟨hk.1.2,hk.2⟩)); clear HO_10; have HO_10 := n_; clear n_)); (try (have HX35 := aK (show Kd.S (Kd.slice 5 (Kd.int .u8)) 27 w34 w.heap.size (fun k_ => ((fun k_ => some k_ ≠ (.slice Ao33 t483.length co33 : Value).ownBlock)) k_ ∧ ¬ ((fun k_ => some k_ = (v487 : Value).ownBlock)) k_) (.slice (some ⟨go31,0,none⟩) x10_2.length co25) x10_2 from (by (with_reducible repeat (first | apply Kd.S_alloc | apply Kd.S_drewN | apply Kd.S_drew)); exact Kd.S_mono HO_10.out (fun k_ hk => ⟨hk.1,fun e_ => hk.2 (by first | exact e_ | exact e_.trans ob_len)⟩))))); (try (obtain ⟨oki35,ce35,hcl35,hM35,hcc35,hfr35,hoki35,hH35⟩ := Kd.S_elem HX35.out [] (x57_2 : Int) oD (by have h_ : (x57_2 : Int) < ((x10_2.length : Int) : Int) := oD; first | exact h_ | (have e_ := (Kd.S_reads' HO_10.out).1; omega) | simpa using h_))); (try (obtain ⟨ve35_0,rfl,ge35_0⟩ := hM35)); (try (have HP35 := Kd.S_seg hH35 oD (by have h_ : (x57_2 : Int) < ((x10_2.length : Int) : Int) := oD; first | exact h_ | (have e_ := (Kd.S_reads' HO_10.out).1; omega) | simpa using h_) (seg := [v487]) (j := 0) (show 1 ≤ 1 from by decide) (x' := t486) (Kd.M_row (Kd.R_mono (Kd.R_tight rfl (Kd.R_mono (ok' := fun k_ => ((fun k_ => some k_ ≠ (.slice Ao33 t483.length co33 : Value).ownBlock)) k_ ∧ k_ ≠ go31) (Kd.R_apart' (HO488.out) (Kd.S_typed HO_10.out) (by decide)) (fun k_ hk => ⟨hk.1.2,fun e_ => (hk.2) (by rw [e_]; rfl)⟩))) (fun _ h_ => Or.inr (h_)))) (fun _ hk => hk) (fun k_ hk_ => ((Kd.R_mono (ok' := fun k_ => ((fun k_ => some k_ ≠ (.slice Ao33 t483.length co33 : Value).ownBlock)) k_ ∧ k_ ≠ go31) (Kd.R_apart' (HO488.out) (Kd.S_typed HO_10.out) (by decide)) (fun k_ hk => ⟨hk.1.2,fun e_ => (hk.2) (by rw [e_]; rfl)⟩))).1 k_ hk_.symm))); (try (have hx35_0 := hcc35 0 _ rfl)); (try (try simp only [show ((Kd.slice 5 (Kd.int .u8))).sz = 1 from rfl,Nat.mul_one,Nat.add_zero] at hx35_0)); (try (have hf35_0 := hfr35 0)); (try (try simp only [show ((Kd.slice 5 (Kd.int .u8))).sz = 1 from rfl,Nat.mul_one,Nat.add_zero] at hf35_0)); (try (clear hcl35 hcc35 hfr35 hoki35 hH35; (try clear hM35))); (try (try simp only [show ((Kd.slice 5 (Kd.int .u8))).sz = 1 from rfl,Nat.mul_one,Nat.add_zero] at HP35)))); refine store_event (t := 27) (p := 68) (v := ?vo_w36) (w1 := (w34.setCell ⟨go31,(x57_2 : Int).toNat,none⟩ (v487))) ?hg ?ho ?hn ?hr ?_; (case ho => rfl); (case hg => rfl); (case hn => rfl); (case hr => first | (go_simp; done) | (go_simp; rfl) | (go_simp; obtain ⟨_,_,eo_⟩ := Kd.R_slice HO488.out; rw [eo_]; first | (go_simp; done) | (go_simp; rfl))); intro w36 hw; have hg : w34.grownBy w36 (some go31) := (by rw [hw]; exact HP35.2); have hp_ : Kd.S (Kd.slice 5 (Kd.int .u8)) 27 w36 w.heap.size (fun k_ => some k_ ≠ (.slice Ao33 t483.length co33 : Value).ownBlock) (.slice (some ⟨go31,0,none⟩) x10_2.length co25) y489 := (by rw [hw,Ny489.out]; exact HP35.1); clear HP35; replace BK474 := aK (blk_grown (g := gb474) (o := .cells #[.int .i64 a0_0,.int .u64 a0_1,.int .i64 a0_2,.int .i64 a0_3] 26 (0,0)) (mvb BK474.out) hg (Kd.S_ne HO_10.out BK474.out (by decide))); replace HO485 := aK (Kd.R_over' (v := (.slice (some ⟨go31,0,none⟩) x10_2.length co25)) (mvR HO485.out) (Kd.S_typed HO_10.out) (by decide) hg); replace HO_10 := aK (hp_); replace HB := aK ((by rw [hw]; exact below_set (HB.out) GB31.out : Below w.heap.size w w36)); clear HO488; clear hg hw hp_) | go_quiet (fail))
        (try simp only [← hl10_2])
        go_roundg k2
        case measure => have := HJ5.out; have := HK2.out; omega
        case rel => exact ⟨(y489),(wrap64 (x57_2 + 1)),(by first | rfl | (simp; done) | (simp [*]; done) | (simp [wrap64]; done)),H',⟨by have := HJ5.out; have := HK2.out; omega⟩,⟨by (try simp only [hl10_2]); (with_reducible repeat (first | apply Kd.S_alloc | apply Kd.S_drewN | apply Kd.S_drew)); exact Kd.S_mono HO_10.out (fun _ hk => trivial)⟩,⟨by (try simp only [hl10_2]); exact mvb BK474.out⟩,⟨mvh HB.out⟩⟩
mutual
def reedsol_code_striped.j0 : Nat → RCode → List Int → Int → Bool → Option (Int)
 | 0,_,_,_,_ => none
 | k + 1,x0,x1,x2,x7 => if x7 = true then (some 1) else (if x2 = 0 then (none) else (if ((x1.length : Int) % x2) = 0 then (if 0 < x0.size then (reedsol_code_striped.j1 k x0 x1 x2 (decide ((wrap64 ((x1.length : Int) / x2)) < x0.Par))) else (none)) else (reedsol_code_striped.j1 k x0 x1 x2 true)))
def reedsol_code_striped.j1 : Nat → RCode → List Int → Int → Bool → Option (Int)
 | 0,_,_,_,_ => none
 | k + 1,x0,x1,x2,x14 => if x14 = true then (some 5) else (if x2 = 0 then (none) else (if 0 < x0.size then (if (wrap64 ((x1.length : Int) / x2)) > (wrap64 ((x0.size : Int) - 1)) then (some 6) else ((reedsol_code_right.f k x0 x1).bind fun t493 => (if t493 = true then (some 0) else (some 11)))) else (none)))
end
def reedsol_code_striped.f (k : Nat) (a0 : RCode) (l1 : List Int) (a2 : Int) : Option (Int) := if a2 < 1 then (reedsol_code_striped.j0 k a0 l1 a2 true) else (reedsol_code_striped.j0 k a0 l1 a2 (decide (a2 > 64)))
theorem reedsol_code_striped.mono_l : ∀ k,(∀ y0 y1 y2 y3,LeO (reedsol_code_striped.j0 k y0 y1 y2 y3) (reedsol_code_striped.j0 (k + 1) y0 y1 y2 y3)) ∧ (∀ y0 y1 y2 y3,LeO (reedsol_code_striped.j1 k y0 y1 y2 y3) (reedsol_code_striped.j1 (k + 1) y0 y1 y2 y3))
 | 0 => ⟨fun _ _ _ _ r h => by simp [reedsol_code_striped.j0] at h,fun _ _ _ _ r h => by simp [reedsol_code_striped.j1] at h⟩
 | k + 1 => by
  obtain ⟨ih0,ih1⟩ := reedsol_code_striped.mono_l k
  refine ⟨?_,?_⟩
  ·intro y0 y1 y2 y3
   unfold reedsol_code_striped.j0
   repeat' with_reducible first
   | exact ih0 _ _ _ _
   | exact ih1 _ _ _ _
   | exact reedsol_code_right.mono _ _ _
   | exact LeO.refl _
   | exact LeO.none _
   | refine LeO.ite ?_ ?_
   | refine LeO.bind ?_ (fun _ => ?_)
  ·intro y0 y1 y2 y3
   unfold reedsol_code_striped.j1
   repeat' with_reducible first
   | exact ih0 _ _ _ _
   | exact ih1 _ _ _ _
   | exact reedsol_code_right.mono _ _ _
   | exact LeO.refl _
   | exact LeO.none _
   | refine LeO.ite ?_ ?_
   | refine LeO.bind ?_ (fun _ => ?_)
theorem reedsol_code_striped.mono : ∀ a0 a1 a2 k,LeO (reedsol_code_striped.f k a0 a1 a2) (reedsol_code_striped.f (k + 1) a0 a1 a2) := by
 intro a0 a1 a2 k
 obtain ⟨ih0,ih1⟩ := reedsol_code_striped.mono_l k
 unfold reedsol_code_striped.f
 repeat' with_reducible first
   | exact ih0 _ _ _ _
   | exact ih1 _ _ _ _
   | exact reedsol_code_right.mono _ _ _
   | exact LeO.refl _
   | exact LeO.none _
   | refine LeO.ite ?_ ?_
   | refine LeO.bind ?_ (fun _ => ?_)
set_option maxHeartbeats 8000000 in
set_option maxRecDepth 100000 in
theorem reedsol_code_striped.calls (k : Nat) (A0 : Option Addr) (a0 : RCode) (A1 : Option Addr) (c1 : Nat) (l1 : List Int) (a2 : Int) (r : Int) (w : World) (hr0 : rs_OK w A0 a0) (hr1 : Kd.C (Kd.int .u8) w A1 l1.length l1) (hc1 : l1.length ≤ c1) (h : reedsol_code_striped.f k a0 l1 a2 = some r) :
  Calls Try.prog 34 #[.pointer A0,.slice A1 l1.length c1,.int .i64 a2] w fun e w' => e = .returned (.int .i64 r) ∧ Drawn0 w w' := by
 have HR0 := Aside0.mk hr0
 clear hr0
 have HR1 := Aside0.mk hr1
 have HC1 := Aside0.mk hc1
 clear hr1 hc1
 have H : (if a2 < 1 then (reedsol_code_striped.j0 k a0 l1 a2 true) else (reedsol_code_striped.j0 k a0 l1 a2 (decide (a2 > 64)))) = some r := h
 clear h
 have HC4 := Aside0.mk H
 clear H
 go_enter Try.func34,Try.ntmps34
 go_upto_region 1 with (fail)
 repeat (go_quiet (fail); go_upto_region 1 with (fail))
 go_cut [7] (fun v7 wc => ∃ (kq : Nat) (x7_3 : Bool),v7 = .bool x7_3 ∧ Aside0 (reedsol_code_striped.j0 kq a0 l1 a2 x7_3 = some r) ∧ Aside0 (kq ≤ k) ∧ Drawn0 w wc)
 case first =>
  have H := HC4.out
  clear HC4
  by_cases c5 : a2 < 1
  ·rw [if_pos c5] at H
   have c5b0 : decide (a2 < 1) = true := decide_eq_true c5
   clear c5
   (first | rw [c5b0] | (simp only [i64_w,i32_w]; rw [c5b0]) | rw [c5b1] | skip)
   have H' := Aside0.mk H
   clear H
   go_wp2
   repeat (go_quiet (fail); try go_wp2)
   go_meet
   case rel => exact ⟨_,(true),(by first | rfl | (simp; done) | (simp [*]; done) | (simp [wrap64]; done)),H',⟨by first | omega | exact Nat.le_refl _⟩,by repeat (first | exact Drawn0.refl _ | apply Drawn0.step)⟩
  ·rw [if_neg c5] at H
   have c5b0 : decide (a2 < 1) = false := decide_eq_false c5
   clear c5
   (first | rw [c5b0] | (simp only [i64_w,i32_w]; rw [c5b0]) | rw [c5b1] | skip)
   have H' := Aside0.mk H
   clear H
   go_wp2
   repeat (go_quiet (fail); try go_wp2)
   go_meet
   case rel => exact ⟨_,(decide (a2 > 64)),(by first | rfl | (simp; done) | (simp [*]; done) | (simp [wrap64]; done)),H',⟨by first | omega | exact Nat.le_refl _⟩,by repeat (first | exact Drawn0.refl _ | apply Drawn0.step)⟩
 case rest =>
  clear HC4
  (try clear c1); (try clear p2); (try clear c3); (try clear c5); (try clear c5b0); (try clear c5b1)
  obtain ⟨kq,x7_3,rfl,HA,HJ3,⟨mc3,rfl⟩⟩ := hcut
  cases kq with
  | zero => exact absurd HA.out (by simp [reedsol_code_striped.j0])
  | succ kj3 =>
   have H := HA.out
   clear HA
   simp only [reedsol_code_striped.j0] at H
   by_cases c6 : x7_3 = true
   ·subst c6
    have H1 : (some 1) = some r := by rw [if_pos rfl] at H; exact H
    clear H
    have H := H1
    clear H1
    obtain rfl := Option.some.inj H
    go_wp2
    repeat (go_quiet (fail); try go_wp2)
    go_ret
    exact ⟨by first | rfl | (simp; done) | (simp [*]; done) | (simp [wrap64]; done),by repeat (first | exact Drawn0.refl _ | apply Drawn0.step)⟩
   ·replace c6 := Bool.eq_false_iff.mpr c6
    subst c6
    have H1 : (if a2 = 0 then (none) else (if ((l1.length : Int) % a2) = 0 then (if 0 < a0.size then (reedsol_code_striped.j1 kj3 a0 l1 a2 (decide ((wrap64 ((l1.length : Int) / a2)) < a0.Par))) else (none)) else (reedsol_code_striped.j1 kj3 a0 l1 a2 true))) = some r := by rw [if_neg (show ¬ (false = true) by decide)] at H; exact H
    clear H
    have H := H1
    clear H1
    have HC7 := Aside0.mk H
    clear H
    go_upto_region 3 with (fail)
    repeat (go_quiet (fail); go_upto_region 3 with (fail))
    go_cut [14] (fun v14 wc => ∃ (kq : Nat) (x14_6 : Bool),v14 = .bool x14_6 ∧ Aside0 (reedsol_code_striped.j1 kq a0 l1 a2 x14_6 = some r) ∧ Aside0 (kq ≤ kj3) ∧ Drawn0 w wc)
    case first =>
     have H := HC7.out
     clear HC7
     by_cases c8 : a2 = 0
     ·rw [if_pos c8] at H
      exact absurd H (by simp)
     ·rw [if_neg c8] at H
      have c8b0 : (a2 == 0) = false := beq_eq_false_iff_ne.mpr c8
      have c8b1 : (a2 != 0) = true := bne_iff_ne.mpr c8
      (first | rw [c8b0] | (simp only [i64_w,i32_w]; rw [c8b0]) | rw [c8b1] | skip)
      by_cases c9 : ((l1.length : Int) % a2) = 0
      rotate_left
      ·rw [if_neg c9] at H
       have c9b0 : (((l1.length : Int) % a2) == 0) = false := beq_eq_false_iff_ne.mpr c9
       have c9b1 : (((l1.length : Int) % a2) != 0) = true := bne_iff_ne.mpr c9
       have H' := Aside0.mk H
       clear H
       go_wp2
       repeat (go_quiet (fail); try go_wp2)
       go_meet
       case rel => exact ⟨_,(true),(by first | rfl | (simp; done) | (simp [*]; done) | (simp [wrap64]; done)),H',⟨by have := HJ3.out; first | omega | exact Nat.le_refl _⟩,by repeat (first | exact Drawn0.refl _ | apply Drawn0.step)⟩
      rw [if_pos c9] at H
      have c9b0 : (((l1.length : Int) % a2) == 0) = true := beq_iff_eq.mpr c9
      have c9b1 : (((l1.length : Int) % a2) != 0) = false := bne_eq_false_iff_eq.mpr c9
      clear c9
      by_cases c10 : 0 < a0.size
      rotate_left
      ·rw [if_neg c10] at H
       exact absurd H (by simp)
      rw [if_pos c10] at H
      obtain ⟨b_,p_,c_,d_,g_,rfl,hT_⟩ := rs_pos HR0.out c10
      have HT0 := Aside0.mk hT_
      clear hT_ c10
      have H' := Aside0.mk H
      clear H
      have ho11 := rs_At_Par HT0.out
      have hx11 := ho11
      go_wp2
      repeat (go_quiet (fail); try go_wp2)
      go_meet
      case rel => exact ⟨_,(decide ((wrap64 ((l1.length : Int) / a2)) < a0.Par)),(by first | rfl | (simp; done) | (simp [*]; done) | (simp [wrap64]; done)),H',⟨by have := HJ3.out; first | omega | exact Nat.le_refl _⟩,by repeat (first | exact Drawn0.refl _ | apply Drawn0.step)⟩
    case rest =>
     clear HC7
     (try clear c1); (try clear hx1); (try clear p2); (try clear c3); (try clear c5); (try clear c5b0); (try clear c5b1); (try clear c6); (try clear p6); (try clear c8); (try clear c8b0); (try clear c8b1); (try clear c9); (try clear c9b0); (try clear c9b1); (try clear c10); (try clear hx11); (try clear p2)
     obtain ⟨kq,x14_6,rfl,HA,HJ6,⟨mc6,rfl⟩⟩ := hcut
     cases kq with
     | zero => exact absurd HA.out (by simp [reedsol_code_striped.j1])
     | succ kj6 =>
      have H := HA.out
      clear HA
      simp only [reedsol_code_striped.j1] at H
      by_cases c12 : x14_6 = true
      ·subst c12
       have H1 : (some 5) = some r := by rw [if_pos rfl] at H; exact H
       clear H
       have H := H1
       clear H1
       obtain rfl := Option.some.inj H
       go_wp2
       repeat (go_quiet (fail); try go_wp2)
       go_ret
       exact ⟨by first | rfl | (simp; done) | (simp [*]; done) | (simp [wrap64]; done),by repeat (first | exact Drawn0.refl _ | apply Drawn0.step)⟩
      ·replace c12 := Bool.eq_false_iff.mpr c12
       subst c12
       have H1 : (if a2 = 0 then (none) else (if 0 < a0.size then (if (wrap64 ((l1.length : Int) / a2)) > (wrap64 ((a0.size : Int) - 1)) then (some 6) else ((reedsol_code_right.f kj6 a0 l1).bind fun t493 => (if t493 = true then (some 0) else (some 11)))) else (none))) = some r := by rw [if_neg (show ¬ (false = true) by decide)] at H; exact H
       clear H
       have H := H1
       clear H1
       by_cases c13 : a2 = 0
       ·rw [if_pos c13] at H
        exact absurd H (by simp)
       ·rw [if_neg c13] at H
        have c13b0 : (a2 == 0) = false := beq_eq_false_iff_ne.mpr c13
        have c13b1 : (a2 != 0) = true := bne_iff_ne.mpr c13
        by_cases c14 : 0 < a0.size
        rotate_left
        ·rw [if_neg c14] at H
         exact absurd H (by simp)

        rw [if_pos c14] at H
        obtain ⟨b_,p_,c_,d_,g_,rfl,hT_⟩ := rs_pos HR0.out c14
        have HT0 := Aside0.mk hT_
        clear hT_ c14
        by_cases c16 : (wrap64 ((l1.length : Int) / a2)) > (wrap64 ((a0.size : Int) - 1))
        ·rw [if_pos c16] at H
         have c16b0 : decide ((wrap64 ((a0.size : Int) - 1)) < (wrap64 ((l1.length : Int) / a2))) = true := decide_eq_true c16
         clear c16
         obtain rfl := Option.some.inj H
         have ho15 := rs_At_size HT0.out
         have hx15 := ho15
         go_wp2
         repeat (go_quiet (fail); try go_wp2)
         go_ret
         exact ⟨by first | rfl | (simp; done) | (simp [*]; done) | (simp [wrap64]; done),by repeat (first | exact Drawn0.refl _ | apply Drawn0.step)⟩
        ·rw [if_neg c16] at H
         have c16b0 : decide ((wrap64 ((a0.size : Int) - 1)) < (wrap64 ((l1.length : Int) / a2))) = false := decide_eq_false c16
         clear c16
         replace H := Option.bind_eq_some_iff.mp H
         obtain ⟨t493,A170,H⟩ := H
         try dsimp only at H
         have A17 := Aside0.mk A170
         clear A170
         by_cases c18 : t493 = true
         ·subst c18
          have H1 : (some 0) = some r := by rw [if_pos rfl] at H; exact H
          clear H
          have H := H1
          clear H1
          obtain rfl := Option.some.inj H
          have ho15 := rs_At_size HT0.out
          have hx15 := ho15
          go_wp2_with (first | (go_at_call 27; (with_reducible refine (reedsol_code_right.calls kj6 _ a0 _ _ l1 true _ ?side1 ?side2 ?side3 A17.out).mono ?_); (case side1 => exact HR0.out); (case side2 => exact mvC HR1.out); (case side3 => exact HC1.out); rintro e w' ⟨rfl,⟨nd,rfl⟩⟩; (try first | exact ⟨rfl,_,World.drewN_drewN _ _ _⟩ | exact ⟨rfl,_,Eq.trans (World.drewN_drewN _ _ _) (congrArg (World.drewN _) (Nat.add_assoc _ _ _))⟩)) | go_quiet (first | (go_at_call 27; (with_reducible refine (reedsol_code_right.calls kj6 _ a0 _ _ l1 true _ ?side1 ?side2 ?side3 A17.out).mono ?_); (case side1 => exact HR0.out); (case side2 => exact mvC HR1.out); (case side3 => exact HC1.out); rintro e w' ⟨rfl,⟨nd,rfl⟩⟩; (try first | exact ⟨rfl,_,World.drewN_drewN _ _ _⟩ | exact ⟨rfl,_,Eq.trans (World.drewN_drewN _ _ _) (congrArg (World.drewN _) (Nat.add_assoc _ _ _))⟩))))
          go_ret
          exact ⟨by first | rfl | (simp; done) | (simp [*]; done) | (simp [wrap64]; done),by repeat (first | exact Drawn0.refl _ | apply Drawn0.step)⟩
         ·replace c18 := Bool.eq_false_iff.mpr c18
          subst c18
          have H1 : (some 11) = some r := by rw [if_neg (show ¬ (false = true) by decide)] at H; exact H
          clear H
          have H := H1
          clear H1
          obtain rfl := Option.some.inj H
          have ho15 := rs_At_size HT0.out
          have hx15 := ho15
          go_wp2_with (first | (go_at_call 27; (with_reducible refine (reedsol_code_right.calls kj6 _ a0 _ _ l1 false _ ?side1 ?side2 ?side3 A17.out).mono ?_); (case side1 => exact HR0.out); (case side2 => exact mvC HR1.out); (case side3 => exact HC1.out); rintro e w' ⟨rfl,⟨nd,rfl⟩⟩; (try first | exact ⟨rfl,_,World.drewN_drewN _ _ _⟩ | exact ⟨rfl,_,Eq.trans (World.drewN_drewN _ _ _) (congrArg (World.drewN _) (Nat.add_assoc _ _ _))⟩)) | go_quiet (first | (go_at_call 27; (with_reducible refine (reedsol_code_right.calls kj6 _ a0 _ _ l1 false _ ?side1 ?side2 ?side3 A17.out).mono ?_); (case side1 => exact HR0.out); (case side2 => exact mvC HR1.out); (case side3 => exact HC1.out); rintro e w' ⟨rfl,⟨nd,rfl⟩⟩; (try first | exact ⟨rfl,_,World.drewN_drewN _ _ _⟩ | exact ⟨rfl,_,Eq.trans (World.drewN_drewN _ _ _) (congrArg (World.drewN _) (Nat.add_assoc _ _ _))⟩))))
          go_ret
          exact ⟨by first | rfl | (simp; done) | (simp [*]; done) | (simp [wrap64]; done),by repeat (first | exact Drawn0.refl _ | apply Drawn0.step)⟩
end Go.Proofs.Ytpgecdidddoglaa.P

