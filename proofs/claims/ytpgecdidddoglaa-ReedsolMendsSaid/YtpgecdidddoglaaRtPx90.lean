import Derived.Test.YtpgecdidddoglaaRtQAux
import Derived.Test.YtpgecdidddoglaaRtPx0
import Derived.Test.YtpgecdidddoglaaRtPx3
import Derived.Test.YtpgecdidddoglaaRtPx9
import Derived.Test.YtpgecdidddoglaaRtPx16
import Derived.Test.YtpgecdidddoglaaRtPx60
import Derived.Test.YtpgecdidddoglaaRtPx17
-- written by mk.sh, a program of this session, over the kit's print
namespace Go.Proofs.Ytpgecdidddoglaa.P
open Go.RowKit Go.Proofs.YtpgecdidddoglaaW.PrintWords Go.Proofs.YtpgecdidddoglaaW.PrintLast Go.Proofs.YtpgecdidddoglaaW.PrintMore
attribute [local go_sem] max2_int min2_int max_two min_two max_three min_three max_four min_four   -- for this text's walks alone
set_option linter.unusedVariables false
set_option linter.unusedSimpArgs false

mutual
def l4_ReedsolMends.j0 : Nat → List Int → List (S70) → Bool → Int → Int → Int → Int → Option (Bool)
 | 0,_,_,_,_,_,_,_ => none
 | k + 1,x1,x2,x22,x436000,x436001,x436002,x436003 => if x22 = true then ((l4_knows.f k).bind fun t438 => (some t438)) else ((l4_elements.f k x436000 x436001 x436002 x436003 x1).bind fun t439 => ((reedsol_Encode.f k x436000 x436001 x436002 x436003 t439).bind fun bt442 => ((l4_num.f bt442.2).bind fun t446 => (if t446 = 0 then (if (bt442.1.length : Int) = (wrap64 ((t439.length : Int) + x436003)) then (if 0 ≤ (t439.length : Int) then (if (t439.length : Int) ≤ (bt442.1.length : Int) then (l4_ReedsolMends.j1 k x2 t439 bt442.1 ((strOfNums (bt442.1.take ((t439.length : Int) : Int).toNat)).toList != (strOfNums t439).toList) x436000 x436001 x436002 x436003) else (none)) else (none)) else (l4_ReedsolMends.j1 k x2 t439 bt442.1 true x436000 x436001 x436002 x436003)) else (l4_ReedsolMends.j1 k x2 t439 bt442.1 true x436000 x436001 x436002 x436003)))))
def l4_ReedsolMends.j1 : Nat → List (S70) → List Int → List Int → Bool → Int → Int → Int → Int → Option (Bool)
 | 0,_,_,_,_,_,_,_,_ => none
 | k + 1,x2,x7,x8,x55,x436000,x436001,x436002,x436003 => if x55 = true then (some false) else ((l4_struck.f k x436000 x436001 x436002 x436003 x8 x2).bind fun bt451 => ((reedsol_Decode.f k x436000 x436001 x436002 x436003 bt451.1 bt451.2.1).bind fun bt458 => ((l4_num.f bt458.2.2).bind fun t463 => (if t463 = 0 then (if bt458.2.1 = bt451.2.2 then (some ((strOfNums bt458.1).toList == (strOfNums x7).toList)) else (some false)) else (some false)))))
end
def l4_ReedsolMends.f (k : Nat) (a0_0 : Int) (a0_1 : Int) (a0_2 : Int) (a0_3 : Int) (l1 : List Int) (l2 : List (S70)) : Option (Bool) := (r4_Check.f k a0_0 a0_1 a0_2 a0_3).bind fun t436 => (if t436 = 0 then ((l4_knows.f k).bind fun t437 => (l4_ReedsolMends.j0 k l1 l2 (!t437) a0_0 a0_1 a0_2 a0_3)) else (l4_ReedsolMends.j0 k l1 l2 true a0_0 a0_1 a0_2 a0_3))
theorem l4_ReedsolMends.mono_l : ∀ k,(∀ y0 y1 y2 y3 y4 y5 y6,LeO (l4_ReedsolMends.j0 k y0 y1 y2 y3 y4 y5 y6) (l4_ReedsolMends.j0 (k + 1) y0 y1 y2 y3 y4 y5 y6)) ∧ (∀ y0 y1 y2 y3 y4 y5 y6 y7,LeO (l4_ReedsolMends.j1 k y0 y1 y2 y3 y4 y5 y6 y7) (l4_ReedsolMends.j1 (k + 1) y0 y1 y2 y3 y4 y5 y6 y7))
 | 0 => ⟨fun _ _ _ _ _ _ _ r h => by simp [l4_ReedsolMends.j0] at h,fun _ _ _ _ _ _ _ _ r h => by simp [l4_ReedsolMends.j1] at h⟩
 | k + 1 => by
  obtain ⟨ih0,ih1⟩ := l4_ReedsolMends.mono_l k
  refine ⟨?_,?_⟩
  ·intro y0 y1 y2 y3 y4 y5 y6
   unfold l4_ReedsolMends.j0
   repeat' first
   | (with_reducible exact ih0 _ _ _ _ _ _ _)
   | (with_reducible exact ih1 _ _ _ _ _ _ _ _)
   | (with_reducible exact l4_elements.mono _ _ _ _ _ _)
   | (with_reducible exact l4_knows.mono _)
   | (with_reducible exact l4_struck.mono _ _ _ _ _ _ _)
   | (with_reducible exact r4_Check.mono _ _ _ _ _)
   | (with_reducible exact reedsol_Decode.mono _ _ _ _ _ _ _)
   | (with_reducible exact reedsol_Encode.mono _ _ _ _ _ _)
   | (with_reducible exact LeO.refl _)
   | (with_reducible exact LeO.none _)
   | (with_reducible refine LeO.ite ?_ ?_)
   | (with_reducible refine LeO.bind ?_ (fun _ => ?_))
  ·intro y0 y1 y2 y3 y4 y5 y6 y7
   unfold l4_ReedsolMends.j1
   repeat' first
   | (with_reducible exact ih0 _ _ _ _ _ _ _)
   | (with_reducible exact ih1 _ _ _ _ _ _ _ _)
   | (with_reducible exact l4_elements.mono _ _ _ _ _ _)
   | (with_reducible exact l4_knows.mono _)
   | (with_reducible exact l4_struck.mono _ _ _ _ _ _ _)
   | (with_reducible exact r4_Check.mono _ _ _ _ _)
   | (with_reducible exact reedsol_Decode.mono _ _ _ _ _ _ _)
   | (with_reducible exact reedsol_Encode.mono _ _ _ _ _ _)
   | (with_reducible exact LeO.refl _)
   | (with_reducible exact LeO.none _)
   | (with_reducible refine LeO.ite ?_ ?_)
   | (with_reducible refine LeO.bind ?_ (fun _ => ?_))
theorem l4_ReedsolMends.mono : ∀ a0 a1 a2 a3 a4 a5 k,LeO (l4_ReedsolMends.f k a0 a1 a2 a3 a4 a5) (l4_ReedsolMends.f (k + 1) a0 a1 a2 a3 a4 a5) := by
 intro a0 a1 a2 a3 a4 a5 k
 obtain ⟨ih0,ih1⟩ := l4_ReedsolMends.mono_l k
 unfold l4_ReedsolMends.f
 repeat' first
   | (with_reducible exact ih0 _ _ _ _ _ _ _)
   | (with_reducible exact ih1 _ _ _ _ _ _ _ _)
   | (with_reducible exact l4_elements.mono _ _ _ _ _ _)
   | (with_reducible exact l4_knows.mono _)
   | (with_reducible exact l4_struck.mono _ _ _ _ _ _ _)
   | (with_reducible exact r4_Check.mono _ _ _ _ _)
   | (with_reducible exact reedsol_Decode.mono _ _ _ _ _ _ _)
   | (with_reducible exact reedsol_Encode.mono _ _ _ _ _ _)
   | (with_reducible exact LeO.refl _)
   | (with_reducible exact LeO.none _)
   | (with_reducible refine LeO.ite ?_ ?_)
   | (with_reducible refine LeO.bind ?_ (fun _ => ?_))
theorem l4_ReedsolMends.no_false {r : Bool} {G : Prop} (hr : r = true) (h : some false = some r) : G := by
 subst hr
 cases h
theorem l4_ReedsolMends.no_j1 {k : Nat} {x2 : List (S70)} {x7 : List Int} {x8 : List Int} {x436000 : Int} {x436001 : Int} {x436002 : Int} {x436003 : Int} {r : Bool} {G : Prop} (hr : r = true) (h : l4_ReedsolMends.j1 k x2 x7 x8 true x436000 x436001 x436002 x436003 = some r) : G := by
 subst hr
 cases k <;> simp [l4_ReedsolMends.j1] at h
set_option maxHeartbeats 8000000 in
set_option maxRecDepth 100000 in
theorem l4_ReedsolMends.calls (k : Nat) (a0_0 : Int) (a0_1 : Int) (a0_2 : Int) (a0_3 : Int) (A1 : Option Addr) (c1 : Nat) (l1 : List Int) (A2 : Option Addr) (c2 : Nat) (l2 : List (S70)) (r : Bool) (hr9_ : r = true) (w : World) (hr1 : Kd.C (Kd.int .u8) w A1 l1.length l1) (hc1 : l1.length ≤ c1) (hr2 : Kd.C k70 w A2 l2.length l2) (hc2 : l2.length ≤ c2) (h : l4_ReedsolMends.f k a0_0 a0_1 a0_2 a0_3 l1 l2 = some r) :
  Calls Try.prog 3 #[.agg #[.int .i64 a0_0,.int .u64 a0_1,.int .i64 a0_2,.int .i64 a0_3],.slice A1 l1.length c1,.slice A2 l2.length c2] w fun e w' => e = .returned (.bool r) ∧ Below w.heap.size w w' := by
 have HR9_ := Aside0.mk hr9_
 clear hr9_
 have hu26 := Try.underlying26
 have HR1 := Aside0.mk hr1
 have HC1 := Aside0.mk hc1
 clear hr1 hc1
 have HR2 := Aside0.mk hr2
 have HC2 := Aside0.mk hc2
 clear hr2 hc2
 have HB := aK (Below.refl w.heap.size w)
 have H : ((r4_Check.f k a0_0 a0_1 a0_2 a0_3).bind fun t436 => (if t436 = 0 then ((l4_knows.f k).bind fun t437 => (l4_ReedsolMends.j0 k l1 l2 (!t437) a0_0 a0_1 a0_2 a0_3)) else (l4_ReedsolMends.j0 k l1 l2 true a0_0 a0_1 a0_2 a0_3))) = some r := h
 clear h
 have HC4 := Aside0.mk H
 clear H
 go_enter Try.func3,Try.ntmps3
 go_upto_region 1 with (first | ((with_reducible refine gate_dst (N := 3) rfl ?_); (try (refine gate_guard (by rfl) ?_; dsimp only)); refine box_event ?hg (N := 3) ?hd (cs := #[.int .i64 a0_0,.int .u64 a0_1,.int .i64 a0_2,.int .i64 a0_3]) (t := 26) ?hr ?_; (case hd => rfl); (case hg => rfl); (case hr => first | (go_simp; done) | (go_simp; rfl)); intro gb435 hg w5 hbox hb; have n0_ := aK (below_step (mvh HB.out) hb); have n1_ := aK (hbox); have n2_ := aK ((by rw [hg]; exact (below_size (mvh HB.out)) : w.heap.size ≤ gb435)); have n3_ := aK ((by rw [hg]; exact (below_size (mvh HB.out)) : w.heap.size ≤ gb435)); clear HB; have HB := n0_; have BK435 := n1_; have GW435 := n2_; have GE435 := n3_; clear n0_ n1_ n2_ n3_; clear hb hbox hg))
 repeat (go_quiet (first | ((with_reducible refine gate_dst (N := 3) rfl ?_); (try (refine gate_guard (by rfl) ?_; dsimp only)); refine box_event ?hg (N := 3) ?hd (cs := #[.int .i64 a0_0,.int .u64 a0_1,.int .i64 a0_2,.int .i64 a0_3]) (t := 26) ?hr ?_; (case hd => rfl); (case hg => rfl); (case hr => first | (go_simp; done) | (go_simp; rfl)); intro gb435 hg w5 hbox hb; have n0_ := aK (below_step (mvh HB.out) hb); have n1_ := aK (hbox); have n2_ := aK ((by rw [hg]; exact (below_size (mvh HB.out)) : w.heap.size ≤ gb435)); have n3_ := aK ((by rw [hg]; exact (below_size (mvh HB.out)) : w.heap.size ≤ gb435)); clear HB; have HB := n0_; have BK435 := n1_; have GW435 := n2_; have GE435 := n3_; clear n0_ n1_ n2_ n3_; clear hb hbox hg)); go_upto_region 1 with (first | ((with_reducible refine gate_dst (N := 3) rfl ?_); (try (refine gate_guard (by rfl) ?_; dsimp only)); refine box_event ?hg (N := 3) ?hd (cs := #[.int .i64 a0_0,.int .u64 a0_1,.int .i64 a0_2,.int .i64 a0_3]) (t := 26) ?hr ?_; (case hd => rfl); (case hg => rfl); (case hr => first | (go_simp; done) | (go_simp; rfl)); intro gb435 hg w5 hbox hb; have n0_ := aK (below_step (mvh HB.out) hb); have n1_ := aK (hbox); have n2_ := aK ((by rw [hg]; exact (below_size (mvh HB.out)) : w.heap.size ≤ gb435)); have n3_ := aK ((by rw [hg]; exact (below_size (mvh HB.out)) : w.heap.size ≤ gb435)); clear HB; have HB := n0_; have BK435 := n1_; have GW435 := n2_; have GE435 := n3_; clear n0_ n1_ n2_ n3_; clear hb hbox hg)))
 (try simp only [Act.put,List.setIfInBounds_toArray,List.set_cons_zero,List.set_cons_succ])
 go_cut [22] (fun v22 wc => ∃ (kq : Nat) (x22_3 : Bool),v22 = .bool x22_3 ∧ Aside0 (l4_ReedsolMends.j0 kq l1 l2 x22_3 a0_0 a0_1 a0_2 a0_3 = some r) ∧ Aside0 (kq ≤ k) ∧ Aside0 (wc.heap[gb435]? = some (.cells #[.int .i64 a0_0,.int .u64 a0_1,.int .i64 a0_2,.int .i64 a0_3] 26 (0,0))) ∧ Aside0 (Below w.heap.size w wc))
 case first =>
  have H := HC4.out
  clear HC4
  replace H := Option.bind_eq_some_iff.mp H
  obtain ⟨t436,A60,H⟩ := H
  try dsimp only at H
  have A6 := Aside0.mk A60
  clear A60
  by_cases c7 : t436 = 0
  rotate_left
  ·rw [if_neg c7] at H
   have c7b0 : (t436 == 0) = false := beq_eq_false_iff_ne.mpr c7
   have c7b1 : (t436 != 0) = true := bne_iff_ne.mpr c7
   (first | rw [c7b0] | (simp only [i64_w,i32_w]; rw [c7b0]) | rw [c7b1] | skip)
   have H' := Aside0.mk H
   clear H
   obtain ⟨hcz12_0,hcz12_1,hcz12_2,hcz12_3,hfz12_0,hfz12_1,hfz12_2,hfz12_3⟩ := cf4 BK435.out
   go_wp2_with (first | (go_at_call 7; (with_reducible refine (r4_Check.calls k a0_0 a0_1 a0_2 a0_3 t436 _ A6.out).mono ?_); rintro e w13 ⟨rfl,hb⟩; have n0_ := aK (kb BK435.out hb); have n1_ := aK (below_step (mvh HB.out) hb); clear BK435 HB; have BK435 := n0_; have HB := n1_; clear n0_ n1_; (try clear hb)))
   repeat (go_quiet (first | (go_at_call 7; (with_reducible refine (r4_Check.calls k a0_0 a0_1 a0_2 a0_3 t436 _ A6.out).mono ?_); rintro e w13 ⟨rfl,hb⟩; have n0_ := aK (kb BK435.out hb); have n1_ := aK (below_step (mvh HB.out) hb); clear BK435 HB; have BK435 := n0_; have HB := n1_; clear n0_ n1_; (try clear hb))); try go_wp2_with (first | (go_at_call 7; (with_reducible refine (r4_Check.calls k a0_0 a0_1 a0_2 a0_3 t436 _ A6.out).mono ?_); rintro e w13 ⟨rfl,hb⟩; have n0_ := aK (kb BK435.out hb); have n1_ := aK (below_step (mvh HB.out) hb); clear BK435 HB; have BK435 := n0_; have HB := n1_; clear n0_ n1_; (try clear hb))))
   go_meet
   case rel => exact ⟨_,(true),(by first | rfl | (simp; done) | (simp [*]; done) | (simp [wrap64]; done)),H',⟨by first | omega | exact Nat.le_refl _⟩,⟨mvb BK435.out⟩,⟨mvh HB.out⟩⟩
  rw [if_pos c7] at H
  have c7b0 : (t436 == 0) = true := beq_iff_eq.mpr c7
  have c7b1 : (t436 != 0) = false := bne_eq_false_iff_eq.mpr c7
  clear c7
  (first | rw [c7b0] | (simp only [i64_w,i32_w]; rw [c7b0]) | rw [c7b1] | skip)
  replace H := Option.bind_eq_some_iff.mp H
  obtain ⟨t437,A80,H⟩ := H
  try dsimp only at H
  have A8 := Aside0.mk A80
  clear A80
  have H' := Aside0.mk H
  clear H
  obtain ⟨hcz9_0,hcz9_1,hcz9_2,hcz9_3,hfz9_0,hfz9_1,hfz9_2,hfz9_3⟩ := cf4 BK435.out
  go_wp2_with (first | (go_at_call 7; (with_reducible refine (r4_Check.calls k a0_0 a0_1 a0_2 a0_3 t436 _ A6.out).mono ?_); rintro e w10 ⟨rfl,hb⟩; have n0_ := aK (kb BK435.out hb); have n1_ := aK (below_step (mvh HB.out) hb); clear BK435 HB; have BK435 := n0_; have HB := n1_; clear n0_ n1_; (try clear hb)) | (go_at_call 8; (with_reducible refine (l4_knows.calls k  t437 _ A8.out).mono ?_); rintro e w11 ⟨rfl,hb⟩; have n0_ := aK (kb BK435.out hb); have n1_ := aK (below_step (mvh HB.out) hb); clear BK435 HB; have BK435 := n0_; have HB := n1_; clear n0_ n1_; (try clear hb)))
  repeat (go_quiet (first | (go_at_call 7; (with_reducible refine (r4_Check.calls k a0_0 a0_1 a0_2 a0_3 t436 _ A6.out).mono ?_); rintro e w10 ⟨rfl,hb⟩; have n0_ := aK (kb BK435.out hb); have n1_ := aK (below_step (mvh HB.out) hb); clear BK435 HB; have BK435 := n0_; have HB := n1_; clear n0_ n1_; (try clear hb)) | (go_at_call 8; (with_reducible refine (l4_knows.calls k  t437 _ A8.out).mono ?_); rintro e w11 ⟨rfl,hb⟩; have n0_ := aK (kb BK435.out hb); have n1_ := aK (below_step (mvh HB.out) hb); clear BK435 HB; have BK435 := n0_; have HB := n1_; clear n0_ n1_; (try clear hb))); try go_wp2_with (first | (go_at_call 7; (with_reducible refine (r4_Check.calls k a0_0 a0_1 a0_2 a0_3 t436 _ A6.out).mono ?_); rintro e w10 ⟨rfl,hb⟩; have n0_ := aK (kb BK435.out hb); have n1_ := aK (below_step (mvh HB.out) hb); clear BK435 HB; have BK435 := n0_; have HB := n1_; clear n0_ n1_; (try clear hb)) | (go_at_call 8; (with_reducible refine (l4_knows.calls k  t437 _ A8.out).mono ?_); rintro e w11 ⟨rfl,hb⟩; have n0_ := aK (kb BK435.out hb); have n1_ := aK (below_step (mvh HB.out) hb); clear BK435 HB; have BK435 := n0_; have HB := n1_; clear n0_ n1_; (try clear hb))))
  go_meet
  case rel => exact ⟨_,(!t437),(by first | rfl | (simp; done) | (simp [*]; done) | (simp [wrap64]; done)),H',⟨by first | omega | exact Nat.le_refl _⟩,⟨mvb BK435.out⟩,⟨mvh HB.out⟩⟩
 case rest =>
  clear HC4
  (try clear c1); (try clear c2); (try clear p2); (try clear c3); (try clear p6); (try clear c7); (try clear c7b0); (try clear c7b1); (try clear hcz12_0); (try clear hcz12_1); (try clear hcz12_2); (try clear hcz12_3); (try clear hcz9_0); (try clear hcz9_1); (try clear hcz9_2); (try clear hcz9_3); (try clear hfz12_0)
  (try clear hfz12_1); (try clear hfz12_2); (try clear hfz12_3); (try clear hfz9_0); (try clear hfz9_1); (try clear hfz9_2); (try clear hfz9_3)
  obtain ⟨kq,x22_3,rfl,HA,HJ3,BK435,HB⟩ := hcut
  cases kq with
  | zero => exact absurd HA.out (by simp [l4_ReedsolMends.j0])
  | succ kj3 =>
   have H := HA.out
   clear HA
   simp only [l4_ReedsolMends.j0] at H
   by_cases c14 : x22_3 = true
   ·subst c14
    have H1 : ((l4_knows.f kj3).bind fun t438 => (some t438)) = some r := by rw [if_pos rfl] at H; exact H
    clear H
    have H := H1
    clear H1
    replace H := Option.bind_eq_some_iff.mp H
    obtain ⟨t438,A150,H⟩ := H
    replace H : (some t438) = some r := H
    have A15 := Aside0.mk A150
    clear A150
    obtain rfl := Option.some.inj H
    go_wp2_with (first | (go_at_call 8; (with_reducible refine (l4_knows.calls kj3  t438 _ A15.out).mono ?_); rintro e w16 ⟨rfl,hb⟩; have n0_ := aK (kb BK435.out hb); have n1_ := aK (below_step (mvh HB.out) hb); clear BK435 HB; have BK435 := n0_; have HB := n1_; clear n0_ n1_; (try clear hb)))
    repeat (go_quiet (first | (go_at_call 8; (with_reducible refine (l4_knows.calls kj3  t438 _ A15.out).mono ?_); rintro e w16 ⟨rfl,hb⟩; have n0_ := aK (kb BK435.out hb); have n1_ := aK (below_step (mvh HB.out) hb); clear BK435 HB; have BK435 := n0_; have HB := n1_; clear n0_ n1_; (try clear hb))); try go_wp2_with (first | (go_at_call 8; (with_reducible refine (l4_knows.calls kj3  t438 _ A15.out).mono ?_); rintro e w16 ⟨rfl,hb⟩; have n0_ := aK (kb BK435.out hb); have n1_ := aK (below_step (mvh HB.out) hb); clear BK435 HB; have BK435 := n0_; have HB := n1_; clear n0_ n1_; (try clear hb))))
    go_ret
    exact ⟨by first | rfl | (simp [errW_none,errW_some] <;> rfl) | (simp [*,errW_none,errW_some] <;> rfl),mvh HB.out⟩
   ·replace c14 := Bool.eq_false_iff.mpr c14
    subst c14
    have H1 : ((l4_elements.f kj3 a0_0 a0_1 a0_2 a0_3 l1).bind fun t439 => ((reedsol_Encode.f kj3 a0_0 a0_1 a0_2 a0_3 t439).bind fun bt442 => ((l4_num.f bt442.2).bind fun t446 => (if t446 = 0 then (if (bt442.1.length : Int) = (wrap64 ((t439.length : Int) + a0_3)) then (if 0 ≤ (t439.length : Int) then (if (t439.length : Int) ≤ (bt442.1.length : Int) then (l4_ReedsolMends.j1 kj3 l2 t439 bt442.1 ((strOfNums (bt442.1.take ((t439.length : Int) : Int).toNat)).toList != (strOfNums t439).toList) a0_0 a0_1 a0_2 a0_3) else (none)) else (none)) else (l4_ReedsolMends.j1 kj3 l2 t439 bt442.1 true a0_0 a0_1 a0_2 a0_3)) else (l4_ReedsolMends.j1 kj3 l2 t439 bt442.1 true a0_0 a0_1 a0_2 a0_3))))) = some r := by rw [if_neg (show ¬ (false = true) by decide)] at H; exact H
    clear H
    have H := H1
    clear H1
    replace H := Option.bind_eq_some_iff.mp H
    obtain ⟨t439,A170,H⟩ := H
    try dsimp only at H
    have A17 := Aside0.mk A170
    clear A170
    replace H := Option.bind_eq_some_iff.mp H
    obtain ⟨⟨t442,t445⟩,A180,H⟩ := H
    try dsimp only at H
    have A18 := Aside0.mk A180
    clear A180
    have HC19 := Aside0.mk H
    clear H
    obtain ⟨hcz20_0,hcz20_1,hcz20_2,hcz20_3,hfz20_0,hfz20_1,hfz20_2,hfz20_3⟩ := cf4 BK435.out
    go_upto_region 5 with (first | (go_at_call 9; (with_reducible refine (l4_elements.calls kj3 a0_0 a0_1 a0_2 a0_3 _ _ l1 t439 _ ?side1 ?side2 A17.out).mono ?_); (case side1 => exact Kd.C_below HR1.out (mvh HB.out)); (case side2 => exact HC1.out); rintro e w21 ⟨v440,rfl,ho0,hb⟩; have n0_ := aK (Kd.R_lower ho0 (below_size (mvh HB.out))); have n1_ := aK (kb BK435.out hb); have n2_ := aK (below_step (mvh HB.out) hb); clear BK435 HB; have HO441 := n0_; have BK435 := n1_; have HB := n2_; clear n0_ n1_ n2_; (try clear hb); (try clear ho0); obtain ⟨hcz22_0,hcz22_1,hcz22_2,hcz22_3,hfz22_0,hfz22_1,hfz22_2,hfz22_3⟩ := cf4 BK435.out; obtain ⟨Ao23,co23,eo23⟩ := Kd.R_slice HO441.out; subst eo23) | (go_at_call 10; (with_reducible refine (reedsol_Encode.calls kj3 a0_0 a0_1 a0_2 a0_3 _ _ t439 t442 t445 _ ?side1 ?side2 A18.out).mono ?_); (case side1 => exact mvC (Kd.R_reads' HO441.out).2.2); (case side2 => exact (Kd.R_reads' HO441.out).2.1); rintro e w24 ⟨v443,rfl,ho0,hb⟩; have n0_ := aK (Kd.R_elder' (mvR HO441.out) (Kd.R_base ho0) hb); have n1_ := aK (Kd.R_lower (Kd.R_new' ho0 (Kd.R_lt (mvR HO441.out))) (below_size (mvh HB.out))); have n2_ := aK (kb BK435.out hb); have n3_ := aK (below_step (mvh HB.out) hb); clear HO441 BK435 HB; have HO441 := n0_; have HO444 := n1_; have BK435 := n2_; have HB := n3_; clear n0_ n1_ n2_ n3_; (try clear hb); (try clear ho0)))
    repeat (go_quiet (first | (go_at_call 9; (with_reducible refine (l4_elements.calls kj3 a0_0 a0_1 a0_2 a0_3 _ _ l1 t439 _ ?side1 ?side2 A17.out).mono ?_); (case side1 => exact Kd.C_below HR1.out (mvh HB.out)); (case side2 => exact HC1.out); rintro e w21 ⟨v440,rfl,ho0,hb⟩; have n0_ := aK (Kd.R_lower ho0 (below_size (mvh HB.out))); have n1_ := aK (kb BK435.out hb); have n2_ := aK (below_step (mvh HB.out) hb); clear BK435 HB; have HO441 := n0_; have BK435 := n1_; have HB := n2_; clear n0_ n1_ n2_; (try clear hb); (try clear ho0); obtain ⟨hcz22_0,hcz22_1,hcz22_2,hcz22_3,hfz22_0,hfz22_1,hfz22_2,hfz22_3⟩ := cf4 BK435.out; obtain ⟨Ao23,co23,eo23⟩ := Kd.R_slice HO441.out; subst eo23) | (go_at_call 10; (with_reducible refine (reedsol_Encode.calls kj3 a0_0 a0_1 a0_2 a0_3 _ _ t439 t442 t445 _ ?side1 ?side2 A18.out).mono ?_); (case side1 => exact mvC (Kd.R_reads' HO441.out).2.2); (case side2 => exact (Kd.R_reads' HO441.out).2.1); rintro e w24 ⟨v443,rfl,ho0,hb⟩; have n0_ := aK (Kd.R_elder' (mvR HO441.out) (Kd.R_base ho0) hb); have n1_ := aK (Kd.R_lower (Kd.R_new' ho0 (Kd.R_lt (mvR HO441.out))) (below_size (mvh HB.out))); have n2_ := aK (kb BK435.out hb); have n3_ := aK (below_step (mvh HB.out) hb); clear HO441 BK435 HB; have HO441 := n0_; have HO444 := n1_; have BK435 := n2_; have HB := n3_; clear n0_ n1_ n2_ n3_; (try clear hb); (try clear ho0))); go_upto_region 5 with (first | (go_at_call 9; (with_reducible refine (l4_elements.calls kj3 a0_0 a0_1 a0_2 a0_3 _ _ l1 t439 _ ?side1 ?side2 A17.out).mono ?_); (case side1 => exact Kd.C_below HR1.out (mvh HB.out)); (case side2 => exact HC1.out); rintro e w21 ⟨v440,rfl,ho0,hb⟩; have n0_ := aK (Kd.R_lower ho0 (below_size (mvh HB.out))); have n1_ := aK (kb BK435.out hb); have n2_ := aK (below_step (mvh HB.out) hb); clear BK435 HB; have HO441 := n0_; have BK435 := n1_; have HB := n2_; clear n0_ n1_ n2_; (try clear hb); (try clear ho0); obtain ⟨hcz22_0,hcz22_1,hcz22_2,hcz22_3,hfz22_0,hfz22_1,hfz22_2,hfz22_3⟩ := cf4 BK435.out; obtain ⟨Ao23,co23,eo23⟩ := Kd.R_slice HO441.out; subst eo23) | (go_at_call 10; (with_reducible refine (reedsol_Encode.calls kj3 a0_0 a0_1 a0_2 a0_3 _ _ t439 t442 t445 _ ?side1 ?side2 A18.out).mono ?_); (case side1 => exact mvC (Kd.R_reads' HO441.out).2.2); (case side2 => exact (Kd.R_reads' HO441.out).2.1); rintro e w24 ⟨v443,rfl,ho0,hb⟩; have n0_ := aK (Kd.R_elder' (mvR HO441.out) (Kd.R_base ho0) hb); have n1_ := aK (Kd.R_lower (Kd.R_new' ho0 (Kd.R_lt (mvR HO441.out))) (below_size (mvh HB.out))); have n2_ := aK (kb BK435.out hb); have n3_ := aK (below_step (mvh HB.out) hb); clear HO441 BK435 HB; have HO441 := n0_; have HO444 := n1_; have BK435 := n2_; have HB := n3_; clear n0_ n1_ n2_ n3_; (try clear hb); (try clear ho0))))
    (try simp only [Act.put,List.setIfInBounds_toArray,List.set_cons_zero,List.set_cons_succ])
    go_cut [55] (fun v55 wc => ∃ (kq : Nat) (x55_18 : Bool),v55 = .bool x55_18 ∧ Aside0 (l4_ReedsolMends.j1 kq l2 t439 t442 x55_18 a0_0 a0_1 a0_2 a0_3 = some r) ∧ Aside0 (kq ≤ kj3) ∧ Aside0 (Kd.R (Kd.int .u8) 5 wc w.heap.size (fun k_ => some k_ ≠ (v443 : Value).ownBlock) (.slice Ao23 t439.length co23) t439) ∧ Aside0 (Kd.R (Kd.int .u8) 5 wc w.heap.size (fun k_ => some k_ ≠ ((.slice Ao23 t439.length co23) : Value).ownBlock) v443 t442) ∧ Aside0 (wc.heap[gb435]? = some (.cells #[.int .i64 a0_0,.int .u64 a0_1,.int .i64 a0_2,.int .i64 a0_3] 26 (0,0))) ∧ Aside0 (Below w.heap.size w wc))
    case first =>
     have H := HC19.out
     clear HC19
     replace H := Option.bind_eq_some_iff.mp H
     obtain ⟨t446,A250,H⟩ := H
     try dsimp only at H
     have A25 := Aside0.mk A250
     clear A250
     by_cases c26 : t446 = 0
     rotate_left
     ·rw [if_neg c26] at H
      exact l4_ReedsolMends.no_j1 HR9_.out H
     rw [if_pos c26] at H
     have c26b0 : (t446 == 0) = true := beq_iff_eq.mpr c26
     have c26b1 : (t446 != 0) = false := bne_eq_false_iff_eq.mpr c26
     clear c26
     (first | rw [c26b0] | (simp only [i64_w,i32_w]; rw [c26b0]) | rw [c26b1] | skip)
     by_cases c27 : (t442.length : Int) = (wrap64 ((t439.length : Int) + a0_3))
     rotate_left
     ·rw [if_neg c27] at H
      exact l4_ReedsolMends.no_j1 HR9_.out H
     rw [if_pos c27] at H
     have c27b0 : ((t442.length : Int) == (wrap64 ((t439.length : Int) + a0_3))) = true := beq_iff_eq.mpr c27
     have c27b0w : ((t442.length : Int) == (IntKind.i64.wrap ((t439.length : Int) + a0_3))) = true := by rw [i64_w]; exact c27b0
     have c27b1 : ((t442.length : Int) != (wrap64 ((t439.length : Int) + a0_3))) = false := bne_eq_false_iff_eq.mpr c27
     have c27b1w : ((t442.length : Int) != (IntKind.i64.wrap ((t439.length : Int) + a0_3))) = false := by rw [i64_w]; exact c27b1
     clear c27
     by_cases c28 : 0 ≤ (t439.length : Int)
     rotate_left
     ·rw [if_neg c28] at H
      exact absurd H (by simp)
     rw [if_pos c28] at H
     have c28b0 := eq_true c28
     have c28b1 : decide (0 ≤ (t439.length : Int)) = true := decide_eq_true c28
     clear c28
     by_cases c29 : (t439.length : Int) ≤ (t442.length : Int)
     rotate_left
     ·rw [if_neg c29] at H
      exact absurd H (by simp)
     rw [if_pos c29] at H
     have c29b0 := eq_true c29
     have c29b1 : decide ((t439.length : Int) ≤ (t442.length : Int)) = true := decide_eq_true c29
     clear c29
     obtain ⟨y447,hy447⟩ : ∃ y_ : List Int,y_ = (t442.take ((t439.length : Int) : Int).toNat) := ⟨_,rfl⟩
     replace H : (l4_ReedsolMends.j1 kj3 l2 t439 t442 ((strOfNums y447).toList != (strOfNums t439).toList) a0_0 a0_1 a0_2 a0_3) = some r := by rw [hy447]; exact H
     have Ny447 := Aside0.mk hy447
     clear hy447
     have H' := Aside0.mk H
     clear H
     go_wp2_with (first | (go_at_call 11; (with_reducible refine (l4_num.calls t445 t446 _ A25.out).mono ?_); rintro e w' ⟨rfl,⟨nd,rfl⟩⟩; (try first | exact ⟨rfl,_,World.drewN_drewN _ _ _⟩ | exact ⟨rfl,_,Eq.trans (World.drewN_drewN _ _ _) (congrArg (World.drewN _) (Nat.add_assoc _ _ _))⟩); obtain ⟨Ao30,co30,eo30⟩ := Kd.R_slice HO444.out; subst eo30; obtain ⟨hcz31_0,hcz31_1,hcz31_2,hcz31_3,hfz31_0,hfz31_1,hfz31_2,hfz31_3⟩ := cf4 BK435.out; have q32 : ((t439.length : Int) : Int) ≤ ((t442.length : Int) : Int) := of_decide_eq_true (by first | (with_reducible assumption) | assumption); obtain ⟨i032,hi032,_,hsz32,_⟩ := info_parts info5; have hroom32 : t442.length ≤ co30 := (Kd.R_reads' HO444.out).2.1; have hC32 : Kd.C (Kd.int .u8) _ Ao30 t442.length t442 := (Kd.R_reads' HO444.out).2.2; have hcut32 := cut_to (P := Try.prog) 27 5 .i64 Try.underlying27 hi032 Ao30 t442.length co30 (t439.length : Int) (of_decide_eq_true (by first | (with_reducible assumption) | assumption)) q32 hroom32; have hr32 := Kd.C_take (m := ((t439.length : Int) : Int).toNat) hC32 (by omega); have hy32 : y447.length = ((t439.length : Int) : Int).toNat := (by rw [Ny447.out,List.length_take]; omega); rw [← Ny447.out] at hr32; rw [← hy32] at hcut32; have HR450 := Aside0.mk hr32; have HC450 := aK (show y447.length ≤ co30 from by omega); clear hr32 hC32 hroom32 hi032 hsz32; have KY32 := Aside0.mk hy32; clear hy32; have KL32 := aK (show ((t439.length : Int) : Int).toNat ≤ t442.length from by omega); replace q32 := eq_true q32; have hcv33 := Kd.C_string (P := Try.prog) (A := Ao30) (c := co30) Try.underlying27 Try.underlying5 Try.underlying9 (by repeat (first | (with_reducible exact HR450.out) | (with_reducible refine Kd.C_alloc ?_ _) | (with_reducible refine Kd.C_drewN ?_ _) | (with_reducible refine Kd.C_drew ?_) | exact HR450.out)); have hcv34 := fun n_ => Kd.C_string (P := Try.prog) (A := Ao30) (c := co30) Try.underlying27 Try.underlying5 Try.underlying9 (Kd.C_drewN (by repeat (first | (with_reducible exact HR450.out) | (with_reducible refine Kd.C_alloc ?_ _) | (with_reducible refine Kd.C_drewN ?_ _) | (with_reducible refine Kd.C_drew ?_) | exact HR450.out)) n_); have hcv35 := own_string (P := Try.prog) Try.underlying27 Try.underlying5 Try.underlying9 (Kd.own_of_R HO441.out); have hcv36 := fun n_ => own_string (P := Try.prog) Try.underlying27 Try.underlying5 Try.underlying9 (Kd.own_of_R (Kd.R_drewN HO441.out n_))))
     repeat (go_quiet (first | (go_at_call 11; (with_reducible refine (l4_num.calls t445 t446 _ A25.out).mono ?_); rintro e w' ⟨rfl,⟨nd,rfl⟩⟩; (try first | exact ⟨rfl,_,World.drewN_drewN _ _ _⟩ | exact ⟨rfl,_,Eq.trans (World.drewN_drewN _ _ _) (congrArg (World.drewN _) (Nat.add_assoc _ _ _))⟩); obtain ⟨Ao30,co30,eo30⟩ := Kd.R_slice HO444.out; subst eo30; obtain ⟨hcz31_0,hcz31_1,hcz31_2,hcz31_3,hfz31_0,hfz31_1,hfz31_2,hfz31_3⟩ := cf4 BK435.out; have q32 : ((t439.length : Int) : Int) ≤ ((t442.length : Int) : Int) := of_decide_eq_true (by first | (with_reducible assumption) | assumption); obtain ⟨i032,hi032,_,hsz32,_⟩ := info_parts info5; have hroom32 : t442.length ≤ co30 := (Kd.R_reads' HO444.out).2.1; have hC32 : Kd.C (Kd.int .u8) _ Ao30 t442.length t442 := (Kd.R_reads' HO444.out).2.2; have hcut32 := cut_to (P := Try.prog) 27 5 .i64 Try.underlying27 hi032 Ao30 t442.length co30 (t439.length : Int) (of_decide_eq_true (by first | (with_reducible assumption) | assumption)) q32 hroom32; have hr32 := Kd.C_take (m := ((t439.length : Int) : Int).toNat) hC32 (by omega); have hy32 : y447.length = ((t439.length : Int) : Int).toNat := (by rw [Ny447.out,List.length_take]; omega); rw [← Ny447.out] at hr32; rw [← hy32] at hcut32; have HR450 := Aside0.mk hr32; have HC450 := aK (show y447.length ≤ co30 from by omega); clear hr32 hC32 hroom32 hi032 hsz32; have KY32 := Aside0.mk hy32; clear hy32; have KL32 := aK (show ((t439.length : Int) : Int).toNat ≤ t442.length from by omega); replace q32 := eq_true q32; have hcv33 := Kd.C_string (P := Try.prog) (A := Ao30) (c := co30) Try.underlying27 Try.underlying5 Try.underlying9 (by repeat (first | (with_reducible exact HR450.out) | (with_reducible refine Kd.C_alloc ?_ _) | (with_reducible refine Kd.C_drewN ?_ _) | (with_reducible refine Kd.C_drew ?_) | exact HR450.out)); have hcv34 := fun n_ => Kd.C_string (P := Try.prog) (A := Ao30) (c := co30) Try.underlying27 Try.underlying5 Try.underlying9 (Kd.C_drewN (by repeat (first | (with_reducible exact HR450.out) | (with_reducible refine Kd.C_alloc ?_ _) | (with_reducible refine Kd.C_drewN ?_ _) | (with_reducible refine Kd.C_drew ?_) | exact HR450.out)) n_); have hcv35 := own_string (P := Try.prog) Try.underlying27 Try.underlying5 Try.underlying9 (Kd.own_of_R HO441.out); have hcv36 := fun n_ => own_string (P := Try.prog) Try.underlying27 Try.underlying5 Try.underlying9 (Kd.own_of_R (Kd.R_drewN HO441.out n_)))); try go_wp2_with (first | (go_at_call 11; (with_reducible refine (l4_num.calls t445 t446 _ A25.out).mono ?_); rintro e w' ⟨rfl,⟨nd,rfl⟩⟩; (try first | exact ⟨rfl,_,World.drewN_drewN _ _ _⟩ | exact ⟨rfl,_,Eq.trans (World.drewN_drewN _ _ _) (congrArg (World.drewN _) (Nat.add_assoc _ _ _))⟩); obtain ⟨Ao30,co30,eo30⟩ := Kd.R_slice HO444.out; subst eo30; obtain ⟨hcz31_0,hcz31_1,hcz31_2,hcz31_3,hfz31_0,hfz31_1,hfz31_2,hfz31_3⟩ := cf4 BK435.out; have q32 : ((t439.length : Int) : Int) ≤ ((t442.length : Int) : Int) := of_decide_eq_true (by first | (with_reducible assumption) | assumption); obtain ⟨i032,hi032,_,hsz32,_⟩ := info_parts info5; have hroom32 : t442.length ≤ co30 := (Kd.R_reads' HO444.out).2.1; have hC32 : Kd.C (Kd.int .u8) _ Ao30 t442.length t442 := (Kd.R_reads' HO444.out).2.2; have hcut32 := cut_to (P := Try.prog) 27 5 .i64 Try.underlying27 hi032 Ao30 t442.length co30 (t439.length : Int) (of_decide_eq_true (by first | (with_reducible assumption) | assumption)) q32 hroom32; have hr32 := Kd.C_take (m := ((t439.length : Int) : Int).toNat) hC32 (by omega); have hy32 : y447.length = ((t439.length : Int) : Int).toNat := (by rw [Ny447.out,List.length_take]; omega); rw [← Ny447.out] at hr32; rw [← hy32] at hcut32; have HR450 := Aside0.mk hr32; have HC450 := aK (show y447.length ≤ co30 from by omega); clear hr32 hC32 hroom32 hi032 hsz32; have KY32 := Aside0.mk hy32; clear hy32; have KL32 := aK (show ((t439.length : Int) : Int).toNat ≤ t442.length from by omega); replace q32 := eq_true q32; have hcv33 := Kd.C_string (P := Try.prog) (A := Ao30) (c := co30) Try.underlying27 Try.underlying5 Try.underlying9 (by repeat (first | (with_reducible exact HR450.out) | (with_reducible refine Kd.C_alloc ?_ _) | (with_reducible refine Kd.C_drewN ?_ _) | (with_reducible refine Kd.C_drew ?_) | exact HR450.out)); have hcv34 := fun n_ => Kd.C_string (P := Try.prog) (A := Ao30) (c := co30) Try.underlying27 Try.underlying5 Try.underlying9 (Kd.C_drewN (by repeat (first | (with_reducible exact HR450.out) | (with_reducible refine Kd.C_alloc ?_ _) | (with_reducible refine Kd.C_drewN ?_ _) | (with_reducible refine Kd.C_drew ?_) | exact HR450.out)) n_); have hcv35 := own_string (P := Try.prog) Try.underlying27 Try.underlying5 Try.underlying9 (Kd.own_of_R HO441.out); have hcv36 := fun n_ => own_string (P := Try.prog) Try.underlying27 Try.underlying5 Try.underlying9 (Kd.own_of_R (Kd.R_drewN HO441.out n_)))))
     go_meet
     case rel => exact ⟨_,(((strOfNums y447).toList != (strOfNums t439).toList)),(by first | rfl | (simp; done) | (simp [*]; done) | (simp [wrap64]; done)),H',⟨by have := HJ3.out; first | omega | exact Nat.le_refl _⟩,⟨by (with_reducible repeat (first | apply Kd.R_alloc | apply Kd.R_drewN | apply Kd.R_drew)); exact Kd.R_mono HO441.out (fun _ hk => hk.2)⟩,⟨by (with_reducible repeat (first | apply Kd.R_alloc | apply Kd.R_drewN | apply Kd.R_drew)); exact Kd.R_mono HO444.out (fun _ hk => hk.2)⟩,⟨mvb BK435.out⟩,⟨mvh HB.out⟩⟩
    case rest =>
     clear HC19
     (try clear c1); (try clear c2); (try clear p2); (try clear c3); (try clear q3); (try clear hcv3); (try clear p6); (try clear c7); (try clear c7b0); (try clear c7b1); (try clear c14); (try clear c26); (try clear c26b0); (try clear c26b1); (try clear c27); (try clear c27b0); (try clear c27b1); (try clear c28)
     (try clear c28b0); (try clear c28b1); (try clear c29); (try clear c29b0); (try clear c29b1); (try clear q32); (try clear hcv33); (try clear hcv34); (try clear hcv35); (try clear hcv36); (try clear hcz12_0); (try clear hcz12_1); (try clear hcz12_2); (try clear hcz12_3); (try clear hcz20_0); (try clear hcz20_1)
     (try clear hcz20_2); (try clear hcz20_3); (try clear hcz22_0); (try clear hcz22_1); (try clear hcz22_2); (try clear hcz22_3); (try clear hcz31_0); (try clear hcz31_1); (try clear hcz31_2); (try clear hcz31_3); (try clear hcz38_0); (try clear hcz38_1); (try clear hcz38_2); (try clear hcz38_3); (try clear hcz9_0)
     (try clear hcz9_1); (try clear hcz9_2); (try clear hcz9_3); (try clear hfz12_0); (try clear hfz12_1); (try clear hfz12_2); (try clear hfz12_3); (try clear hfz20_0); (try clear hfz20_1); (try clear hfz20_2); (try clear hfz20_3); (try clear hfz22_0); (try clear hfz22_1); (try clear hfz22_2); (try clear hfz22_3)
     (try clear hfz31_0); (try clear hfz31_1); (try clear hfz31_2); (try clear hfz31_3); (try clear hfz38_0); (try clear hfz38_1); (try clear hfz38_2); (try clear hfz38_3); (try clear hfz9_0); (try clear hfz9_1); (try clear hfz9_2); (try clear hfz9_3); (try clear p2); (try clear p6); (try clear q32)
     obtain ⟨kq,x55_18,rfl,HA,HJ18,HO_7,HO_8,BK435,HB⟩ := hcut
     cases kq with
     | zero => exact absurd HA.out (by simp [l4_ReedsolMends.j1])
     | succ kj18 =>
      have H := HA.out
      clear HA
      simp only [l4_ReedsolMends.j1] at H
      by_cases c39 : x55_18 = true
      ·subst c39
       exact l4_ReedsolMends.no_false HR9_.out H
      ·replace c39 := Bool.eq_false_iff.mpr c39
       subst c39
       have H1 : ((l4_struck.f kj18 a0_0 a0_1 a0_2 a0_3 t442 l2).bind fun bt451 => ((reedsol_Decode.f kj18 a0_0 a0_1 a0_2 a0_3 bt451.1 bt451.2.1).bind fun bt458 => ((l4_num.f bt458.2.2).bind fun t463 => (if t463 = 0 then (if bt458.2.1 = bt451.2.2 then (some ((strOfNums bt458.1).toList == (strOfNums t439).toList)) else (some false)) else (some false))))) = some r := by rw [if_neg (show ¬ (false = true) by decide)] at H; exact H
       clear H
       have H := H1
       clear H1
       replace H := Option.bind_eq_some_iff.mp H
       obtain ⟨⟨t451,t454,t457⟩,A400,H⟩ := H
       try dsimp only at H
       have A40 := Aside0.mk A400
       clear A400
       replace H := Option.bind_eq_some_iff.mp H
       obtain ⟨⟨t458,t461,t462⟩,A410,H⟩ := H
       try dsimp only at H
       have A41 := Aside0.mk A410
       clear A410
       replace H := Option.bind_eq_some_iff.mp H
       obtain ⟨t463,A420,H⟩ := H
       try dsimp only at H
       have A42 := Aside0.mk A420
       clear A420
       by_cases c43 : t463 = 0
       rotate_left
       ·rw [if_neg c43] at H
        exact l4_ReedsolMends.no_false HR9_.out H
       rw [if_pos c43] at H
       have c43b0 : (t463 == 0) = true := beq_iff_eq.mpr c43
       have c43b1 : (t463 != 0) = false := bne_eq_false_iff_eq.mpr c43
       clear c43
       by_cases c44 : t461 = t457
       rotate_left
       ·rw [if_neg c44] at H
        exact l4_ReedsolMends.no_false HR9_.out H
       rw [if_pos c44] at H
       have c44b0 : (t461 == t457) = true := beq_iff_eq.mpr c44
       have c44b1 : (t461 != t457) = false := bne_eq_false_iff_eq.mpr c44
       clear c44
       obtain rfl := Option.some.inj H
       obtain ⟨hcz45_0,hcz45_1,hcz45_2,hcz45_3,hfz45_0,hfz45_1,hfz45_2,hfz45_3⟩ := cf4 BK435.out
       obtain ⟨Ao46,co46,eo46⟩ := Kd.R_slice HO_8.out
       subst eo46
       go_wp2_with (first | (go_at_call 12; (with_reducible refine (l4_struck.calls kj18 a0_0 a0_1 a0_2 a0_3 _ _ t442 _ _ l2 t451 t454 t457 _ ?side1 ?side2 ?side3 ?side4 A40.out).mono ?_); (case side1 => exact mvC (Kd.R_reads' HO_8.out).2.2); (case side2 => exact (Kd.R_reads' HO_8.out).2.1); (case side3 => exact Kd.C_below HR2.out (mvh HB.out)); (case side4 => exact HC2.out); rintro e w47 ⟨v452,v455,rfl,ho0,ho1,hb⟩; have n0_ := aK (Kd.R_elder' (mvR HO_7.out) (Kd.R_base ho0) hb); have n1_ := aK (Kd.R_elder' (mvR HO_8.out) (Kd.R_base ho0) hb); have n2_ := aK (Kd.R_lower (Kd.R_new' (Kd.R_new' ho0 (Kd.R_lt (mvR HO_7.out))) (Kd.R_lt (mvR HO_8.out))) (below_size (mvh HB.out))); have n3_ := aK (Kd.R_lower ho1 (below_size (mvh HB.out))); have n4_ := aK (kb BK435.out hb); have n5_ := aK (below_step (mvh HB.out) hb); clear HO_7 HO_8 BK435 HB; have HO_7 := n0_; have HO_8 := n1_; have HO453 := n2_; have HO456 := n3_; have BK435 := n4_; have HB := n5_; clear n0_ n1_ n2_ n3_ n4_ n5_; (try clear hb); (try clear ho0); (try clear ho1); obtain ⟨hcz48_0,hcz48_1,hcz48_2,hcz48_3,hfz48_0,hfz48_1,hfz48_2,hfz48_3⟩ := cf4 BK435.out; obtain ⟨Ao49,co49,eo49⟩ := Kd.R_slice HO453.out; subst eo49; obtain ⟨Ao50,co50,eo50⟩ := Kd.R_slice HO456.out; subst eo50) | (go_at_call 13; (with_reducible refine (reedsol_Decode.calls kj18 a0_0 a0_1 a0_2 a0_3 _ _ t451 _ _ t454 t458 t461 t462 _ ?side1 ?side2 ?side3 ?side4 A41.out).mono ?_); (case side1 => exact mvC (Kd.R_reads' HO453.out).2.2); (case side2 => exact (Kd.R_reads' HO453.out).2.1); (case side3 => exact mvC (Kd.R_reads' HO456.out).2.2); (case side4 => exact (Kd.R_reads' HO456.out).2.1); rintro e w51 ⟨v459,rfl,ho0,hb⟩; have n0_ := aK (Kd.R_below (mvR HO_7.out) hb); have n1_ := aK (Kd.R_below (mvR HO_8.out) hb); have n2_ := aK (Kd.R_below (mvR HO453.out) hb); have n3_ := aK (Kd.R_below (mvR HO456.out) hb); have n4_ := aK (Kd.V_lower (Kd.V_mono (ok' := fun k_ => some k_ ≠ (.slice Ao23 t439.length co23 : Value).ownBlock ∧ some k_ ≠ (.slice Ao46 t442.length co46 : Value).ownBlock ∧ some k_ ≠ (.slice Ao49 t451.length co49 : Value).ownBlock ∧ some k_ ≠ (.slice Ao50 t454.length co50 : Value).ownBlock ∧ k_ ≠ gb435) ho0 (fun k_ hk_ => ⟨(Kd.fresh' (Kd.R_lt (mvR HO_7.out)) k_ hk_),(Kd.fresh' (Kd.R_lt (mvR HO_8.out)) k_ hk_),(Kd.fresh' (Kd.R_lt (mvR HO453.out)) k_ hk_),(Kd.fresh' (Kd.R_lt (mvR HO456.out)) k_ hk_),(Kd.freshB (g := gb435) (o := .cells #[.int .i64 a0_0,.int .u64 a0_1,.int .i64 a0_2,.int .i64 a0_3] 26 (0,0)) (mvb BK435.out) k_ hk_)⟩)) (below_size (mvh HB.out))); have n5_ := aK (kb BK435.out hb); have n6_ := aK (below_step (mvh HB.out) hb); clear HO_7 HO_8 HO453 HO456 BK435 HB; have HO_7 := n0_; have HO_8 := n1_; have HO453 := n2_; have HO456 := n3_; have HO460 := n4_; have BK435 := n5_; have HB := n6_; clear n0_ n1_ n2_ n3_ n4_ n5_ n6_; (try clear hb); (try clear ho0)) | (go_at_call 11; (with_reducible refine (l4_num.calls t462 t463 _ A42.out).mono ?_); rintro e w' ⟨rfl,⟨nd,rfl⟩⟩; (try first | exact ⟨rfl,_,World.drewN_drewN _ _ _⟩ | exact ⟨rfl,_,Eq.trans (World.drewN_drewN _ _ _) (congrArg (World.drewN _) (Nat.add_assoc _ _ _))⟩); have hcv52 := V_string (P := Try.prog) Try.underlying27 Try.underlying5 Try.underlying9 HO460.out; have hcv53 := fun n_ => V_string (P := Try.prog) Try.underlying27 Try.underlying5 Try.underlying9 (Kd.V_drewN HO460.out n_); have hcv54 := own_string (P := Try.prog) Try.underlying27 Try.underlying5 Try.underlying9 (Kd.own_of_R HO_7.out); have hcv55 := fun n_ => own_string (P := Try.prog) Try.underlying27 Try.underlying5 Try.underlying9 (Kd.own_of_R (Kd.R_drewN HO_7.out n_))))
       repeat (go_quiet (first | (go_at_call 12; (with_reducible refine (l4_struck.calls kj18 a0_0 a0_1 a0_2 a0_3 _ _ t442 _ _ l2 t451 t454 t457 _ ?side1 ?side2 ?side3 ?side4 A40.out).mono ?_); (case side1 => exact mvC (Kd.R_reads' HO_8.out).2.2); (case side2 => exact (Kd.R_reads' HO_8.out).2.1); (case side3 => exact Kd.C_below HR2.out (mvh HB.out)); (case side4 => exact HC2.out); rintro e w47 ⟨v452,v455,rfl,ho0,ho1,hb⟩; have n0_ := aK (Kd.R_elder' (mvR HO_7.out) (Kd.R_base ho0) hb); have n1_ := aK (Kd.R_elder' (mvR HO_8.out) (Kd.R_base ho0) hb); have n2_ := aK (Kd.R_lower (Kd.R_new' (Kd.R_new' ho0 (Kd.R_lt (mvR HO_7.out))) (Kd.R_lt (mvR HO_8.out))) (below_size (mvh HB.out))); have n3_ := aK (Kd.R_lower ho1 (below_size (mvh HB.out))); have n4_ := aK (kb BK435.out hb); have n5_ := aK (below_step (mvh HB.out) hb); clear HO_7 HO_8 BK435 HB; have HO_7 := n0_; have HO_8 := n1_; have HO453 := n2_; have HO456 := n3_; have BK435 := n4_; have HB := n5_; clear n0_ n1_ n2_ n3_ n4_ n5_; (try clear hb); (try clear ho0); (try clear ho1); obtain ⟨hcz48_0,hcz48_1,hcz48_2,hcz48_3,hfz48_0,hfz48_1,hfz48_2,hfz48_3⟩ := cf4 BK435.out; obtain ⟨Ao49,co49,eo49⟩ := Kd.R_slice HO453.out; subst eo49; obtain ⟨Ao50,co50,eo50⟩ := Kd.R_slice HO456.out; subst eo50) | (go_at_call 13; (with_reducible refine (reedsol_Decode.calls kj18 a0_0 a0_1 a0_2 a0_3 _ _ t451 _ _ t454 t458 t461 t462 _ ?side1 ?side2 ?side3 ?side4 A41.out).mono ?_); (case side1 => exact mvC (Kd.R_reads' HO453.out).2.2); (case side2 => exact (Kd.R_reads' HO453.out).2.1); (case side3 => exact mvC (Kd.R_reads' HO456.out).2.2); (case side4 => exact (Kd.R_reads' HO456.out).2.1); rintro e w51 ⟨v459,rfl,ho0,hb⟩; have n0_ := aK (Kd.R_below (mvR HO_7.out) hb); have n1_ := aK (Kd.R_below (mvR HO_8.out) hb); have n2_ := aK (Kd.R_below (mvR HO453.out) hb); have n3_ := aK (Kd.R_below (mvR HO456.out) hb); have n4_ := aK (Kd.V_lower (Kd.V_mono (ok' := fun k_ => some k_ ≠ (.slice Ao23 t439.length co23 : Value).ownBlock ∧ some k_ ≠ (.slice Ao46 t442.length co46 : Value).ownBlock ∧ some k_ ≠ (.slice Ao49 t451.length co49 : Value).ownBlock ∧ some k_ ≠ (.slice Ao50 t454.length co50 : Value).ownBlock ∧ k_ ≠ gb435) ho0 (fun k_ hk_ => ⟨(Kd.fresh' (Kd.R_lt (mvR HO_7.out)) k_ hk_),(Kd.fresh' (Kd.R_lt (mvR HO_8.out)) k_ hk_),(Kd.fresh' (Kd.R_lt (mvR HO453.out)) k_ hk_),(Kd.fresh' (Kd.R_lt (mvR HO456.out)) k_ hk_),(Kd.freshB (g := gb435) (o := .cells #[.int .i64 a0_0,.int .u64 a0_1,.int .i64 a0_2,.int .i64 a0_3] 26 (0,0)) (mvb BK435.out) k_ hk_)⟩)) (below_size (mvh HB.out))); have n5_ := aK (kb BK435.out hb); have n6_ := aK (below_step (mvh HB.out) hb); clear HO_7 HO_8 HO453 HO456 BK435 HB; have HO_7 := n0_; have HO_8 := n1_; have HO453 := n2_; have HO456 := n3_; have HO460 := n4_; have BK435 := n5_; have HB := n6_; clear n0_ n1_ n2_ n3_ n4_ n5_ n6_; (try clear hb); (try clear ho0)) | (go_at_call 11; (with_reducible refine (l4_num.calls t462 t463 _ A42.out).mono ?_); rintro e w' ⟨rfl,⟨nd,rfl⟩⟩; (try first | exact ⟨rfl,_,World.drewN_drewN _ _ _⟩ | exact ⟨rfl,_,Eq.trans (World.drewN_drewN _ _ _) (congrArg (World.drewN _) (Nat.add_assoc _ _ _))⟩); have hcv52 := V_string (P := Try.prog) Try.underlying27 Try.underlying5 Try.underlying9 HO460.out; have hcv53 := fun n_ => V_string (P := Try.prog) Try.underlying27 Try.underlying5 Try.underlying9 (Kd.V_drewN HO460.out n_); have hcv54 := own_string (P := Try.prog) Try.underlying27 Try.underlying5 Try.underlying9 (Kd.own_of_R HO_7.out); have hcv55 := fun n_ => own_string (P := Try.prog) Try.underlying27 Try.underlying5 Try.underlying9 (Kd.own_of_R (Kd.R_drewN HO_7.out n_)))); try go_wp2_with (first | (go_at_call 12; (with_reducible refine (l4_struck.calls kj18 a0_0 a0_1 a0_2 a0_3 _ _ t442 _ _ l2 t451 t454 t457 _ ?side1 ?side2 ?side3 ?side4 A40.out).mono ?_); (case side1 => exact mvC (Kd.R_reads' HO_8.out).2.2); (case side2 => exact (Kd.R_reads' HO_8.out).2.1); (case side3 => exact Kd.C_below HR2.out (mvh HB.out)); (case side4 => exact HC2.out); rintro e w47 ⟨v452,v455,rfl,ho0,ho1,hb⟩; have n0_ := aK (Kd.R_elder' (mvR HO_7.out) (Kd.R_base ho0) hb); have n1_ := aK (Kd.R_elder' (mvR HO_8.out) (Kd.R_base ho0) hb); have n2_ := aK (Kd.R_lower (Kd.R_new' (Kd.R_new' ho0 (Kd.R_lt (mvR HO_7.out))) (Kd.R_lt (mvR HO_8.out))) (below_size (mvh HB.out))); have n3_ := aK (Kd.R_lower ho1 (below_size (mvh HB.out))); have n4_ := aK (kb BK435.out hb); have n5_ := aK (below_step (mvh HB.out) hb); clear HO_7 HO_8 BK435 HB; have HO_7 := n0_; have HO_8 := n1_; have HO453 := n2_; have HO456 := n3_; have BK435 := n4_; have HB := n5_; clear n0_ n1_ n2_ n3_ n4_ n5_; (try clear hb); (try clear ho0); (try clear ho1); obtain ⟨hcz48_0,hcz48_1,hcz48_2,hcz48_3,hfz48_0,hfz48_1,hfz48_2,hfz48_3⟩ := cf4 BK435.out; obtain ⟨Ao49,co49,eo49⟩ := Kd.R_slice HO453.out; subst eo49; obtain ⟨Ao50,co50,eo50⟩ := Kd.R_slice HO456.out; subst eo50) | (go_at_call 13; (with_reducible refine (reedsol_Decode.calls kj18 a0_0 a0_1 a0_2 a0_3 _ _ t451 _ _ t454 t458 t461 t462 _ ?side1 ?side2 ?side3 ?side4 A41.out).mono ?_); (case side1 => exact mvC (Kd.R_reads' HO453.out).2.2); (case side2 => exact (Kd.R_reads' HO453.out).2.1); (case side3 => exact mvC (Kd.R_reads' HO456.out).2.2); (case side4 => exact (Kd.R_reads' HO456.out).2.1); rintro e w51 ⟨v459,rfl,ho0,hb⟩; have n0_ := aK (Kd.R_below (mvR HO_7.out) hb); have n1_ := aK (Kd.R_below (mvR HO_8.out) hb); have n2_ := aK (Kd.R_below (mvR HO453.out) hb); have n3_ := aK (Kd.R_below (mvR HO456.out) hb); have n4_ := aK (Kd.V_lower (Kd.V_mono (ok' := fun k_ => some k_ ≠ (.slice Ao23 t439.length co23 : Value).ownBlock ∧ some k_ ≠ (.slice Ao46 t442.length co46 : Value).ownBlock ∧ some k_ ≠ (.slice Ao49 t451.length co49 : Value).ownBlock ∧ some k_ ≠ (.slice Ao50 t454.length co50 : Value).ownBlock ∧ k_ ≠ gb435) ho0 (fun k_ hk_ => ⟨(Kd.fresh' (Kd.R_lt (mvR HO_7.out)) k_ hk_),(Kd.fresh' (Kd.R_lt (mvR HO_8.out)) k_ hk_),(Kd.fresh' (Kd.R_lt (mvR HO453.out)) k_ hk_),(Kd.fresh' (Kd.R_lt (mvR HO456.out)) k_ hk_),(Kd.freshB (g := gb435) (o := .cells #[.int .i64 a0_0,.int .u64 a0_1,.int .i64 a0_2,.int .i64 a0_3] 26 (0,0)) (mvb BK435.out) k_ hk_)⟩)) (below_size (mvh HB.out))); have n5_ := aK (kb BK435.out hb); have n6_ := aK (below_step (mvh HB.out) hb); clear HO_7 HO_8 HO453 HO456 BK435 HB; have HO_7 := n0_; have HO_8 := n1_; have HO453 := n2_; have HO456 := n3_; have HO460 := n4_; have BK435 := n5_; have HB := n6_; clear n0_ n1_ n2_ n3_ n4_ n5_ n6_; (try clear hb); (try clear ho0)) | (go_at_call 11; (with_reducible refine (l4_num.calls t462 t463 _ A42.out).mono ?_); rintro e w' ⟨rfl,⟨nd,rfl⟩⟩; (try first | exact ⟨rfl,_,World.drewN_drewN _ _ _⟩ | exact ⟨rfl,_,Eq.trans (World.drewN_drewN _ _ _) (congrArg (World.drewN _) (Nat.add_assoc _ _ _))⟩); have hcv52 := V_string (P := Try.prog) Try.underlying27 Try.underlying5 Try.underlying9 HO460.out; have hcv53 := fun n_ => V_string (P := Try.prog) Try.underlying27 Try.underlying5 Try.underlying9 (Kd.V_drewN HO460.out n_); have hcv54 := own_string (P := Try.prog) Try.underlying27 Try.underlying5 Try.underlying9 (Kd.own_of_R HO_7.out); have hcv55 := fun n_ => own_string (P := Try.prog) Try.underlying27 Try.underlying5 Try.underlying9 (Kd.own_of_R (Kd.R_drewN HO_7.out n_)))))
       go_ret
       exact ⟨by first | rfl | (simp [errW_none,errW_some] <;> rfl) | (simp [*,errW_none,errW_some] <;> rfl),mvh HB.out⟩
def l4_ReedsolMends.Pure : Prop := ∀ (a0_0 : Int) (a0_1 : Int) (a0_2 : Int) (a0_3 : Int) (l1 : List Int) (l2 : List (S70)),(Lit.int .i64 a0_0).wf = true → (Lit.int .u64 a0_1).wf = true → (Lit.int .i64 a0_2).wf = true → (Lit.int .i64 a0_3).wf = true → l1.length ≤ maxLen → l1.length * 1 ≤ 140737488351232 → (∀ x ∈ l1,(Lit.int .u8 x).wf = true) → l2.length ≤ maxLen → l2.length * 16 ≤ 140737488351232 → (∀ x ∈ l2,(Lit.int .i64 x.f0).wf = true ∧ (Lit.int .u8 x.f1).wf = true ∧ True) → ∃ k,l4_ReedsolMends.f k a0_0 a0_1 a0_2 a0_3 l1 l2 = some true
theorem l4_ReedsolMends.walk (P : l4_ReedsolMends.Pure) (a0_0 : Int) (a0_1 : Int) (a0_2 : Int) (a0_3 : Int) (a1 : Option Addr) (len1 cap1 : Nat) (z1 : List Int) (a2 : Option Addr) (cap2 : Nat) (l2 : List (S70)) (w : World) (w0_0 : (Lit.int .i64 a0_0).wf = true) (w0_1 : (Lit.int .u64 a0_1).wf = true) (w0_2 : (Lit.int .i64 a0_2).wf = true) (w0_3 : (Lit.int .i64 a0_3).wf = true) (w1 : (a1 = none ∧ len1 = 0 ∧ cap1 = 0 ∧ z1 = []) ∨ ∃ x,a1 = some x ∧ len1 ≤ cap1 ∧ cap1 ≤ maxLen ∧ z1.length = cap1 ∧ (∀ i,i < z1.length → w.cell? (x.add i) = some (.int .u8 (z1.getD i 0))) ∧ ∀ n ∈ z1,(Lit.int .u8 n).wf = true) (y1 : len1 * 1 ≤ 140737488351232) (hr2 : Kd.C k70 w a2 l2.length l2) (hc2 : l2.length ≤ cap2) (hm2 : l2.length ≤ maxLen) (y2 : l2.length * 16 ≤ 140737488351232) (hw2 : ∀ x ∈ l2,(Lit.int .i64 x.f0).wf = true ∧ (Lit.int .u8 x.f1).wf = true ∧ True) :
  Calls Try.prog 3 #[.agg #[.int .i64 a0_0,.int .u64 a0_1,.int .i64 a0_2,.int .i64 a0_3],.slice a1 len1 cap1,.slice a2 l2.length cap2] w fun e w' => e = .returned (.bool true) ∧ Below w.heap.size w w' := by
 obtain ⟨l1,rfl,hr1,hm1,hw1,hc1⟩ := ReadsInt.ofRowC w1
 obtain ⟨k,h⟩ := P a0_0 a0_1 a0_2 a0_3 l1 l2 w0_0 w0_1 w0_2 w0_3 hm1 y1 hw1 hm2 y2 hw2
 refine (l4_ReedsolMends.calls k a0_0 a0_1 a0_2 a0_3 _ _ l1 _ _ l2 true rfl w (Kd.C_of_reads (d := (0 : Int)) (h1 := fun _ => rfl) hr1) hc1 hr2 hc2 h).mono ?_
 rintro e w' ⟨rfl,hd⟩
 exact ⟨rfl,hd⟩


end Go.Proofs.Ytpgecdidddoglaa.P

