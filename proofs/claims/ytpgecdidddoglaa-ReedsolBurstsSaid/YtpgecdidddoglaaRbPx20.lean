-- written by mk.sh, a program of this session, over the kit's print
import Derived.Test.YtpgecdidddoglaaRbQAux
import Derived.Test.YtpgecdidddoglaaRbPx0
import Derived.Test.YtpgecdidddoglaaRbPx6
import Derived.Test.YtpgecdidddoglaaRbPx7
import Derived.Test.YtpgecdidddoglaaRbPx10
import Derived.Test.YtpgecdidddoglaaRbPx15
import Derived.Test.YtpgecdidddoglaaRbPx18
import Derived.Test.YtpgecdidddoglaaRbPx19
namespace Go.Proofs.Ytpgecdidddoglaa.P
open Go.RowKit Go.Proofs.YtpgecdidddoglaaW.PrintWords Go.Proofs.YtpgecdidddoglaaW.PrintLast Go.Proofs.YtpgecdidddoglaaW.PrintMore
attribute [local go_sem] max2_int min2_int max_two min_two max_three min_three max_four min_four   -- for this text's walks alone
set_option linter.unusedVariables false
set_option linter.unusedSimpArgs false

mutual
def reedsol_Unstripe.l0 : Nat → List Int → Int → List Int → Int → RCode → Int → List (List Int) → Int → Int → Option (List Int × Int × Int)
 | 0,_,_,_,_,_,_,_,_,_ => none
 | k + 1,x1,x2,x3,x9,x11,x16,x17,x63,x64 => if x64 < x63 then ((reedsol_apart.f k x1 x64 x2).bind fun t511 => (reedsol_Unstripe.l1 k x1 x2 x3 x9 x11 x16 x17 x64 t511 ([] : List Int) x63 x64 x3 (x3.length : Int) 0)) else ((reedsol_together.f k x17).bind fun t508 => (some (t508,x9,0)))
def reedsol_Unstripe.l1 : Nat → List Int → Int → List Int → Int → RCode → Int → List (List Int) → Int → List Int → List Int → Int → Int → List Int → Int → Int → Option (List Int × Int × Int)
 | 0,_,_,_,_,_,_,_,_,_,_,_,_,_,_,_ => none
 | k + 1,x1,x2,x3,x9,x11,x16,x17,x18,x19,x20,x63,x64,x71,x72,x73 => if x73 < x72 then (if 0 ≤ x73 then (if x73 < (x71.length : Int) then (if x2 = 0 then (none) else (if (Int.tmod (rd x71 x73) x2) = x18 then (if x20.length < 17592186044416 then (reedsol_Unstripe.l1 k x1 x2 x3 x9 x11 x16 x17 x18 x19 (x20 ++ [wrap64 (Int.tdiv (rd x71 x73) x2)]) x63 x64 x71 x72 (wrap64 (x73 + 1))) else (none)) else (reedsol_Unstripe.l1 k x1 x2 x3 x9 x11 x16 x17 x18 x19 x20 x63 x64 x71 x72 (wrap64 (x73 + 1))))) else (none)) else (none)) else ((reedsol_places.f k (x19.length : Int) x20).bind fun bt518 => ((reedsol_code_mend.f k x11 x19 bt518.1 bt518.2.1).bind fun bt523 => (if bt523.2 = true then (if 0 ≤ x16 then (if x16 ≤ (bt523.1.length : Int) then (if 0 ≤ x18 then (if x18 < (x17.length : Int) then (reedsol_Unstripe.l0 k x1 x2 x3 x9 x11 x16 (x17.set (x18 : Int).toNat (bt523.1.take (x16 : Int).toNat)) x63 (wrap64 (x64 + 1))) else (none)) else (none)) else (none)) else (none)) else (if 0 ≤ x16 then (if x16 ≤ (x19.length : Int) then (if 0 ≤ x18 then (if x18 < (x17.length : Int) then (reedsol_Unstripe.l0 k x1 x2 x3 (wrap64 (x9 + 1)) x11 x16 (x17.set (x18 : Int).toNat (x19.take (x16 : Int).toNat)) x63 (wrap64 (x64 + 1))) else (none)) else (none)) else (none)) else (none)))))
end
def reedsol_Unstripe.f (k : Nat) (a0_0 : Int) (a0_1 : Int) (a0_2 : Int) (a0_3 : Int) (l1 : List Int) (a2 : Int) (l3 : List Int) : Option (List Int × Int × Int) := (reedsol_open.f k a0_0 a0_1 a0_2 a0_3).bind fun bt495 => (if bt495.2 = 0 then ((reedsol_code_striped.f k bt495.1 l1 a2).bind fun t499 => (if t499 = 0 then ((reedsol_places.f k (l1.length : Int) l3).bind fun bt500 => (if bt500.2.2 = true then (if a2 = 0 then (none) else (if 0 ≤ a2 then (if (a2 : Int).toNat ≤ 11728124029610 then ((some (List.replicate (a2 : Int).toNat [] : List (List Int))).bind fun y505 => (reedsol_Unstripe.l0 k l1 a2 l3 0 bt495.1 (wrap64 ((wrap64 ((l1.length : Int) / a2)) - a0_3)) y505 (y505.length : Int) 0)) else (none)) else (none))) else (some (([] : List Int),0,3)))) else (some (([] : List Int),0,t499)))) else (some (([] : List Int),0,bt495.2)))
theorem reedsol_Unstripe.mono_l : ∀ k,(∀ y0 y1 y2 y3 y4 y5 y6 y7 y8,LeO (reedsol_Unstripe.l0 k y0 y1 y2 y3 y4 y5 y6 y7 y8) (reedsol_Unstripe.l0 (k + 1) y0 y1 y2 y3 y4 y5 y6 y7 y8)) ∧ (∀ y0 y1 y2 y3 y4 y5 y6 y7 y8 y9 y10 y11 y12 y13 y14,LeO (reedsol_Unstripe.l1 k y0 y1 y2 y3 y4 y5 y6 y7 y8 y9 y10 y11 y12 y13 y14) (reedsol_Unstripe.l1 (k + 1) y0 y1 y2 y3 y4 y5 y6 y7 y8 y9 y10 y11 y12 y13 y14))
 | 0 => ⟨fun _ _ _ _ _ _ _ _ _ r h => by simp [reedsol_Unstripe.l0] at h,fun _ _ _ _ _ _ _ _ _ _ _ _ _ _ _ r h => by simp [reedsol_Unstripe.l1] at h⟩
 | k + 1 => by
  obtain ⟨ih0,ih1⟩ := reedsol_Unstripe.mono_l k
  refine ⟨?_,?_⟩
  ·intro y0 y1 y2 y3 y4 y5 y6 y7 y8
   unfold reedsol_Unstripe.l0
   repeat' with_reducible first
   | exact ih0 _ _ _ _ _ _ _ _ _
   | exact ih1 _ _ _ _ _ _ _ _ _ _ _ _ _ _ _
   | exact reedsol_apart.mono _ _ _ _
   | exact reedsol_code_mend.mono _ _ _ _ _
   | exact reedsol_code_striped.mono _ _ _ _
   | exact reedsol_open.mono _ _ _ _ _
   | exact reedsol_places.mono _ _ _
   | exact reedsol_together.mono _ _
   | exact LeO.refl _
   | exact LeO.none _
   | refine LeO.ite ?_ ?_
   | refine LeO.bind ?_ (fun _ => ?_)
  ·intro y0 y1 y2 y3 y4 y5 y6 y7 y8 y9 y10 y11 y12 y13 y14
   unfold reedsol_Unstripe.l1
   repeat' with_reducible first
   | exact ih0 _ _ _ _ _ _ _ _ _
   | exact ih1 _ _ _ _ _ _ _ _ _ _ _ _ _ _ _
   | exact reedsol_apart.mono _ _ _ _
   | exact reedsol_code_mend.mono _ _ _ _ _
   | exact reedsol_code_striped.mono _ _ _ _
   | exact reedsol_open.mono _ _ _ _ _
   | exact reedsol_places.mono _ _ _
   | exact reedsol_together.mono _ _
   | exact LeO.refl _
   | exact LeO.none _
   | refine LeO.ite ?_ ?_
   | refine LeO.bind ?_ (fun _ => ?_)
theorem reedsol_Unstripe.mono : ∀ a0 a1 a2 a3 a4 a5 a6 k,LeO (reedsol_Unstripe.f k a0 a1 a2 a3 a4 a5 a6) (reedsol_Unstripe.f (k + 1) a0 a1 a2 a3 a4 a5 a6) := by
 intro a0 a1 a2 a3 a4 a5 a6 k
 obtain ⟨ih0,ih1⟩ := reedsol_Unstripe.mono_l k
 unfold reedsol_Unstripe.f
 repeat' with_reducible first
   | exact ih0 _ _ _ _ _ _ _ _ _
   | exact ih1 _ _ _ _ _ _ _ _ _ _ _ _ _ _ _
   | exact reedsol_apart.mono _ _ _ _
   | exact reedsol_code_mend.mono _ _ _ _ _
   | exact reedsol_code_striped.mono _ _ _ _
   | exact reedsol_open.mono _ _ _ _ _
   | exact reedsol_places.mono _ _ _
   | exact reedsol_together.mono _ _
   | exact LeO.refl _
   | exact LeO.none _
   | refine LeO.ite ?_ ?_
   | refine LeO.bind ?_ (fun _ => ?_)
set_option maxHeartbeats 8000000 in
set_option maxRecDepth 100000 in
theorem reedsol_Unstripe.calls (k : Nat) (a0_0 : Int) (a0_1 : Int) (a0_2 : Int) (a0_3 : Int) (A1 : Option Addr) (c1 : Nat) (l1 : List Int) (a2 : Int) (A3 : Option Addr) (c3 : Nat) (l3 : List Int) (r1 : List Int) (r2 : Int) (r3 : Int) (w : World) (hr1 : Kd.C (Kd.int .u8) w A1 l1.length l1) (hc1 : l1.length ≤ c1) (hr3 : Kd.C (Kd.int .i64) w A3 l3.length l3) (hc3 : l3.length ≤ c3) (h : reedsol_Unstripe.f k a0_0 a0_1 a0_2 a0_3 l1 a2 l3 = some (r1,r2,r3)) :
  Calls Try.prog 15 #[.agg #[.int .i64 a0_0,.int .u64 a0_1,.int .i64 a0_2,.int .i64 a0_3],.slice A1 l1.length c1,.int .i64 a2,.slice A3 l3.length c3] w fun e w' => ∃ v0_ : Value,e = .returned (.tuple #[v0_,.int .i64 r2,.int .i64 r3]) ∧ Kd.R (Kd.int .u8) 5 w' w.heap.size (fun _ => True) v0_ r1 ∧ Below w.heap.size w w' := by
 have hu26 := Try.underlying26
 have HR1 := Aside0.mk hr1
 have HC1 := Aside0.mk hc1
 clear hr1 hc1
 have HR3 := Aside0.mk hr3
 have HC3 := Aside0.mk hc3
 clear hr3 hc3
 have HB := aK (Below.refl w.heap.size w)
 have H : ((reedsol_open.f k a0_0 a0_1 a0_2 a0_3).bind fun bt495 => (if bt495.2 = 0 then ((reedsol_code_striped.f k bt495.1 l1 a2).bind fun t499 => (if t499 = 0 then ((reedsol_places.f k (l1.length : Int) l3).bind fun bt500 => (if bt500.2.2 = true then (if a2 = 0 then (none) else (if 0 ≤ a2 then (if (a2 : Int).toNat ≤ 11728124029610 then ((some (List.replicate (a2 : Int).toNat [] : List (List Int))).bind fun y505 => (reedsol_Unstripe.l0 k l1 a2 l3 0 bt495.1 (wrap64 ((wrap64 ((l1.length : Int) / a2)) - a0_3)) y505 (y505.length : Int) 0)) else (none)) else (none))) else (some (([] : List Int),0,3)))) else (some (([] : List Int),0,t499)))) else (some (([] : List Int),0,bt495.2)))) = some (r1,r2,r3) := h
 clear h
 replace H := Option.bind_eq_some_iff.mp H
 obtain ⟨⟨t495,t498⟩,A50,H⟩ := H
 try dsimp only at H
 have A5 := Aside0.mk A50
 clear A50
 by_cases c6 : t498 = 0
 rotate_left
 ·rw [if_neg c6] at H
  have c6b0 : (t498 == 0) = false := beq_eq_false_iff_ne.mpr c6
  have c6b1 : (t498 != 0) = true := bne_iff_ne.mpr c6
  simp only [Option.some.injEq,Prod.mk.injEq] at H
  obtain ⟨rfl,rfl,rfl⟩ := H
  go_enter Try.func15,Try.ntmps15
  go_wp2_with (first | ((with_reducible refine gate_dst (N := 4) rfl ?_); refine box_event ?hg (N := 4) ?hd (cs := #[.int .i64 a0_0,.int .u64 a0_1,.int .i64 a0_2,.int .i64 a0_3]) (t := 26) ?hr ?_; (case hd => rfl); (case hg => rfl); (case hr => first | (go_simp; done) | (go_simp; rfl)); intro gb494 hg w73 hbox hb; have BK494 := aK (hbox); have GW494 := aK ((by rw [hg]; exact (below_size (mvh HB.out)) : w.heap.size ≤ gb494)); have GE494 := aK ((by rw [hg]; exact (below_size (mvh HB.out)) : w.heap.size ≤ gb494)); replace HB := aK (below_step (mvh HB.out) hb); clear hb hbox hg; obtain ⟨hcz74_0,hcz74_1,hcz74_2,hcz74_3,hfz74_0,hfz74_1,hfz74_2,hfz74_3⟩ := cf4 BK494.out) | (go_at_call 26; (with_reducible refine (reedsol_open.calls k a0_0 a0_1 a0_2 a0_3 t495 t498 _ A5.out).mono ?_); rintro e w ⟨Ap496,rfl,hT_,hb⟩; replace BK494 := aK (kb BK494.out hb); replace HR1 := aK (Kd.C_below HR1.out (below_step (mvh HB.out) hb)); replace HR3 := aK (Kd.C_below HR3.out (below_step (mvh HB.out) hb)); have HB00 := aK (below_step (mvh HB.out) hb); replace HB := aK (Below.refl w.heap.size w); have HT497 := Aside0.mk hT_; clear hb hT_) | go_quiet (fail))
  go_ret3
  exact ⟨_,by first | rfl | (simp [errW_none,errW_some] <;> rfl) | (simp [*,errW_none,errW_some] <;> rfl),Kd.R_lower (by first | exact Kd.R_nil _ _ _ _ _ | exact Kd.N_nil _ _ _ _ _ | exact Kd.V_nil _ _ _ _ _ | exact Kd.Q_nil _ _ _ _ _ | exact Kd.S_nil _ _ _ _ _) HB00.out.size,below_step HB00.out (mvh HB.out)⟩

 rw [if_pos c6] at H
 have c6b0 : (t498 == 0) = true := beq_iff_eq.mpr c6
 have c6b1 : (t498 != 0) = false := bne_eq_false_iff_eq.mpr c6
 clear c6
 replace H := Option.bind_eq_some_iff.mp H
 obtain ⟨t499,A70,H⟩ := H
 try dsimp only at H
 have A7 := Aside0.mk A70
 clear A70
 by_cases c8 : t499 = 0
 rotate_left
 ·rw [if_neg c8] at H
  have c8b0 : (t499 == 0) = false := beq_eq_false_iff_ne.mpr c8
  have c8b1 : (t499 != 0) = true := bne_iff_ne.mpr c8
  simp only [Option.some.injEq,Prod.mk.injEq] at H
  obtain ⟨rfl,rfl,rfl⟩ := H
  go_enter Try.func15,Try.ntmps15
  go_wp2_with (first | ((with_reducible refine gate_dst (N := 4) rfl ?_); refine box_event ?hg (N := 4) ?hd (cs := #[.int .i64 a0_0,.int .u64 a0_1,.int .i64 a0_2,.int .i64 a0_3]) (t := 26) ?hr ?_; (case hd => rfl); (case hg => rfl); (case hr => first | (go_simp; done) | (go_simp; rfl)); intro gb494 hg w70 hbox hb; have BK494 := aK (hbox); have GW494 := aK ((by rw [hg]; exact (below_size (mvh HB.out)) : w.heap.size ≤ gb494)); have GE494 := aK ((by rw [hg]; exact (below_size (mvh HB.out)) : w.heap.size ≤ gb494)); replace HB := aK (below_step (mvh HB.out) hb); clear hb hbox hg; obtain ⟨hcz71_0,hcz71_1,hcz71_2,hcz71_3,hfz71_0,hfz71_1,hfz71_2,hfz71_3⟩ := cf4 BK494.out) | (go_at_call 26; (with_reducible refine (reedsol_open.calls k a0_0 a0_1 a0_2 a0_3 t495 t498 _ A5.out).mono ?_); rintro e w ⟨Ap496,rfl,hT_,hb⟩; replace BK494 := aK (kb BK494.out hb); replace HR1 := aK (Kd.C_below HR1.out (below_step (mvh HB.out) hb)); replace HR3 := aK (Kd.C_below HR3.out (below_step (mvh HB.out) hb)); have HB00 := aK (below_step (mvh HB.out) hb); replace HB := aK (Below.refl w.heap.size w); have HT497 := Aside0.mk hT_; clear hb hT_) | (go_at_call 34; (with_reducible refine (reedsol_code_striped.calls k _ t495 _ _ l1 a2 t499 _ ?side1 ?side2 ?side3 A7.out).mono ?_); (case side1 => exact HT497.out); (case side2 => exact mvC HR1.out); (case side3 => exact HC1.out); rintro e w' ⟨rfl,⟨nd,rfl⟩⟩; (try first | exact ⟨rfl,_,World.drewN_drewN _ _ _⟩ | exact ⟨rfl,_,Eq.trans (World.drewN_drewN _ _ _) (congrArg (World.drewN _) (Nat.add_assoc _ _ _))⟩)) | go_quiet (first | (go_at_call 34; (with_reducible refine (reedsol_code_striped.calls k _ t495 _ _ l1 a2 t499 _ ?side1 ?side2 ?side3 A7.out).mono ?_); (case side1 => exact HT497.out); (case side2 => exact mvC HR1.out); (case side3 => exact HC1.out); rintro e w' ⟨rfl,⟨nd,rfl⟩⟩; (try first | exact ⟨rfl,_,World.drewN_drewN _ _ _⟩ | exact ⟨rfl,_,Eq.trans (World.drewN_drewN _ _ _) (congrArg (World.drewN _) (Nat.add_assoc _ _ _))⟩))))
  go_ret3
  exact ⟨_,by first | rfl | (simp [errW_none,errW_some] <;> rfl) | (simp [*,errW_none,errW_some] <;> rfl),Kd.R_lower (by first | exact Kd.R_nil _ _ _ _ _ | exact Kd.N_nil _ _ _ _ _ | exact Kd.V_nil _ _ _ _ _ | exact Kd.Q_nil _ _ _ _ _ | exact Kd.S_nil _ _ _ _ _) HB00.out.size,below_step HB00.out (mvh HB.out)⟩
 rw [if_pos c8] at H
 have c8b0 : (t499 == 0) = true := beq_iff_eq.mpr c8
 have c8b1 : (t499 != 0) = false := bne_eq_false_iff_eq.mpr c8
 clear c8
 replace H := Option.bind_eq_some_iff.mp H
 obtain ⟨⟨t500,t501,t502⟩,A90,H⟩ := H
 try dsimp only at H
 have A9 := Aside0.mk A90
 clear A90
 by_cases c10 : t502 = true
 rotate_left
 ·replace c10 := Bool.eq_false_iff.mpr c10
  subst c10
  have H1 : (some (([] : List Int),0,3)) = some (r1,r2,r3) := by rw [if_neg (show ¬ (false = true) by decide)] at H; exact H
  clear H
  have H := H1
  clear H1
  simp only [Option.some.injEq,Prod.mk.injEq] at H
  obtain ⟨rfl,rfl,rfl⟩ := H
  go_enter Try.func15,Try.ntmps15
  go_wp2_with (first | ((with_reducible refine gate_dst (N := 4) rfl ?_); refine box_event ?hg (N := 4) ?hd (cs := #[.int .i64 a0_0,.int .u64 a0_1,.int .i64 a0_2,.int .i64 a0_3]) (t := 26) ?hr ?_; (case hd => rfl); (case hg => rfl); (case hr => first | (go_simp; done) | (go_simp; rfl)); intro gb494 hg w66 hbox hb; have BK494 := aK (hbox); have GW494 := aK ((by rw [hg]; exact (below_size (mvh HB.out)) : w.heap.size ≤ gb494)); have GE494 := aK ((by rw [hg]; exact (below_size (mvh HB.out)) : w.heap.size ≤ gb494)); replace HB := aK (below_step (mvh HB.out) hb); clear hb hbox hg; obtain ⟨hcz67_0,hcz67_1,hcz67_2,hcz67_3,hfz67_0,hfz67_1,hfz67_2,hfz67_3⟩ := cf4 BK494.out) | (go_at_call 26; (with_reducible refine (reedsol_open.calls k a0_0 a0_1 a0_2 a0_3 t495 t498 _ A5.out).mono ?_); rintro e w ⟨Ap496,rfl,hT_,hb⟩; replace BK494 := aK (kb BK494.out hb); replace HR1 := aK (Kd.C_below HR1.out (below_step (mvh HB.out) hb)); replace HR3 := aK (Kd.C_below HR3.out (below_step (mvh HB.out) hb)); have HB00 := aK (below_step (mvh HB.out) hb); replace HB := aK (Below.refl w.heap.size w); have HT497 := Aside0.mk hT_; clear hb hT_) | (go_at_call 34; (with_reducible refine (reedsol_code_striped.calls k _ t495 _ _ l1 a2 t499 _ ?side1 ?side2 ?side3 A7.out).mono ?_); (case side1 => exact HT497.out); (case side2 => exact mvC HR1.out); (case side3 => exact HC1.out); rintro e w' ⟨rfl,⟨nd,rfl⟩⟩; (try first | exact ⟨rfl,_,World.drewN_drewN _ _ _⟩ | exact ⟨rfl,_,Eq.trans (World.drewN_drewN _ _ _) (congrArg (World.drewN _) (Nat.add_assoc _ _ _))⟩)) | (go_at_call 30; (with_reducible refine (reedsol_places.calls k (l1.length : Int) _ _ l3 t500 t501 false _ ?side1 ?side2 A9.out).mono ?_); (case side1 => exact mvC HR3.out); (case side2 => exact HC3.out); rintro e w69 ⟨v503,rfl,ho0,hb⟩; have HO504 := aK (Kd.R_lower ho0 (below_size (mvh HB.out))); replace BK494 := aK (kb BK494.out hb); replace HB := aK (below_step (mvh HB.out) hb); (try clear hb); (try clear ho0)) | go_quiet (first | (go_at_call 34; (with_reducible refine (reedsol_code_striped.calls k _ t495 _ _ l1 a2 t499 _ ?side1 ?side2 ?side3 A7.out).mono ?_); (case side1 => exact HT497.out); (case side2 => exact mvC HR1.out); (case side3 => exact HC1.out); rintro e w' ⟨rfl,⟨nd,rfl⟩⟩; (try first | exact ⟨rfl,_,World.drewN_drewN _ _ _⟩ | exact ⟨rfl,_,Eq.trans (World.drewN_drewN _ _ _) (congrArg (World.drewN _) (Nat.add_assoc _ _ _))⟩))))
  go_ret3
  exact ⟨_,by first | rfl | (simp [errW_none,errW_some] <;> rfl) | (simp [*,errW_none,errW_some] <;> rfl),Kd.R_lower (by first | exact Kd.R_nil _ _ _ _ _ | exact Kd.N_nil _ _ _ _ _ | exact Kd.V_nil _ _ _ _ _ | exact Kd.Q_nil _ _ _ _ _ | exact Kd.S_nil _ _ _ _ _) HB00.out.size,below_step HB00.out (mvh HB.out)⟩
 subst c10
 have H1 : (if a2 = 0 then (none) else (if 0 ≤ a2 then (if (a2 : Int).toNat ≤ 11728124029610 then ((some (List.replicate (a2 : Int).toNat [] : List (List Int))).bind fun y505 => (reedsol_Unstripe.l0 k l1 a2 l3 0 t495 (wrap64 ((wrap64 ((l1.length : Int) / a2)) - a0_3)) y505 (y505.length : Int) 0)) else (none)) else (none))) = some (r1,r2,r3) := by rw [if_pos rfl] at H; exact H
 clear H
 have H := H1
 clear H1
 by_cases c11 : a2 = 0
 ·rw [if_pos c11] at H
  exact absurd H (by simp)
 ·rw [if_neg c11] at H
  have c11b0 : (a2 == 0) = false := beq_eq_false_iff_ne.mpr c11
  have c11b1 : (a2 != 0) = true := bne_iff_ne.mpr c11
  by_cases c12 : 0 ≤ a2
  rotate_left
  ·rw [if_neg c12] at H
   exact absurd H (by simp)
  rw [if_pos c12] at H
  have c12b0 := eq_true c12
  have c12b1 : decide (0 ≤ a2) = true := decide_eq_true c12
  clear c12
  by_cases c13 : (a2 : Int).toNat ≤ 11728124029610
  rotate_left
  ·rw [if_neg c13] at H
   exact absurd H (by simp)
  rw [if_pos c13] at H
  have c13b0 := eq_true c13
  have c13b1 : decide ((a2 : Int).toNat ≤ 11728124029610) = true := decide_eq_true c13
  clear c13
  obtain ⟨y505,hy505⟩ : ∃ y_ : List (List Int),y_ = (List.replicate (a2 : Int).toNat []) := ⟨_,rfl⟩
  replace H : (reedsol_Unstripe.l0 k l1 a2 l3 0 t495 (wrap64 ((wrap64 ((l1.length : Int) / a2)) - a0_3)) y505 (y505.length : Int) 0) = some (r1,r2,r3) := by rw [hy505]; exact H
  have Ny505 := Aside0.mk hy505
  clear hy505
  have H' := Aside0.mk H
  clear H
  go_enter Try.func15,Try.ntmps15
  go_wp2_with (first | ((with_reducible refine gate_dst (N := 4) rfl ?_); refine box_event ?hg (N := 4) ?hd (cs := #[.int .i64 a0_0,.int .u64 a0_1,.int .i64 a0_2,.int .i64 a0_3]) (t := 26) ?hr ?_; (case hd => rfl); (case hg => rfl); (case hr => first | (go_simp; done) | (go_simp; rfl)); intro gb494 hg w14 hbox hb; have BK494 := aK (hbox); have GW494 := aK ((by rw [hg]; exact (below_size (mvh HB.out)) : w.heap.size ≤ gb494)); have GE494 := aK ((by rw [hg]; exact (below_size (mvh HB.out)) : w.heap.size ≤ gb494)); replace HB := aK (below_step (mvh HB.out) hb); clear hb hbox hg; obtain ⟨hcz15_0,hcz15_1,hcz15_2,hcz15_3,hfz15_0,hfz15_1,hfz15_2,hfz15_3⟩ := cf4 BK494.out) | (go_at_call 26; (with_reducible refine (reedsol_open.calls k a0_0 a0_1 a0_2 a0_3 t495 t498 _ A5.out).mono ?_); rintro e w ⟨Ap496,rfl,hT_,hb⟩; replace BK494 := aK (kb BK494.out hb); replace HR1 := aK (Kd.C_below HR1.out (below_step (mvh HB.out) hb)); replace HR3 := aK (Kd.C_below HR3.out (below_step (mvh HB.out) hb)); have HB00 := aK (below_step (mvh HB.out) hb); replace HB := aK (Below.refl w.heap.size w); have HT497 := Aside0.mk hT_; clear hb hT_) | (go_at_call 34; (with_reducible refine (reedsol_code_striped.calls k _ t495 _ _ l1 a2 t499 _ ?side1 ?side2 ?side3 A7.out).mono ?_); (case side1 => exact HT497.out); (case side2 => exact mvC HR1.out); (case side3 => exact HC1.out); rintro e w' ⟨rfl,⟨nd,rfl⟩⟩; (try first | exact ⟨rfl,_,World.drewN_drewN _ _ _⟩ | exact ⟨rfl,_,Eq.trans (World.drewN_drewN _ _ _) (congrArg (World.drewN _) (Nat.add_assoc _ _ _))⟩)) | (go_at_call 30; (with_reducible refine (reedsol_places.calls k (l1.length : Int) _ _ l3 t500 t501 true _ ?side1 ?side2 A9.out).mono ?_); (case side1 => exact mvC HR3.out); (case side2 => exact HC3.out); rintro e w17 ⟨v503,rfl,ho0,hb⟩; have HO504 := aK (Kd.R_lower ho0 (below_size (mvh HB.out))); replace BK494 := aK (kb BK494.out hb); replace HB := aK (below_step (mvh HB.out) hb); (try clear hb); (try clear ho0); obtain ⟨hcz18_0,hcz18_1,hcz18_2,hcz18_3,hfz18_0,hfz18_1,hfz18_2,hfz18_3⟩ := cf4 BK494.out) | ((with_reducible refine gate_dst (N := 61) rfl ?_); refine Kd.S_make (Kd.slice 5 (Kd.int .u8)) _ 27 rfl (N := 61) rfl 76 _ _ rfl a2 rfl rfl Try.underlying76 (.slice none 0 0) 24 info27 rfl (by decide) (by omega) [] (ok := fun _ => True) (okp := fun _ => True) ⟨_,rfl,Kd.R_nil _ _ _ _ _⟩ (fun _ hk => hk) trivial oD (Nat.le_trans (Nat.mul_le_mul_right _ (oD : a2.toNat ≤ 11728124029610)) (by omega)) (Below.refl _ _) (Nat.le_refl _) ?_; intro v506 w19 ho20 hb hg_ hnew_; clear hg_ hnew_; (first | rw [← Ny505.out] at ho20 | (simp only [Int.reduceToNat] at ho20; rw [← Ny505.out] at ho20)); replace HO504 := aK (Kd.R_below (mvR HO504.out) hb); have HO507 := aK (Kd.S_lower ho20 (below_size (mvh HB.out))); replace BK494 := aK (kb BK494.out hb); replace HB := aK (below_step (mvh HB.out) hb); clear hb ho20; obtain ⟨Ao21,co21,eo21⟩ := Kd.S_slice HO507.out; subst eo21) | go_quiet (first | (go_at_call 34; (with_reducible refine (reedsol_code_striped.calls k _ t495 _ _ l1 a2 t499 _ ?side1 ?side2 ?side3 A7.out).mono ?_); (case side1 => exact HT497.out); (case side2 => exact mvC HR1.out); (case side3 => exact HC1.out); rintro e w' ⟨rfl,⟨nd,rfl⟩⟩; (try first | exact ⟨rfl,_,World.drewN_drewN _ _ _⟩ | exact ⟨rfl,_,Eq.trans (World.drewN_drewN _ _ _) (congrArg (World.drewN _) (Nat.add_assoc _ _ _))⟩))))
  go_loopg [9,64] k (fun kq v9 v64 w' => ∃ (x9_1 : Int) (x17_1 : List (List Int)) (x64_1 : Int),v9 = .int .i64 x9_1 ∧ v64 = .int .i64 x64_1 ∧ Aside0 (reedsol_Unstripe.l0 kq l1 a2 l3 x9_1 t495 (wrap64 ((wrap64 ((l1.length : Int) / a2)) - a0_3)) x17_1 (y505.length : Int) x64_1 = some (r1,r2,r3)) ∧ Aside0 (kq ≤ k) ∧ Aside0 (Kd.S (Kd.slice 5 (Kd.int .u8)) 27 w' w.heap.size (fun _ => True) (.slice Ao21 y505.length co21) x17_1) ∧ Aside0 (w'.heap[gb494]? = some (.cells #[.int .i64 a0_0,.int .u64 a0_1,.int .i64 a0_2,.int .i64 a0_3] 26 (0,0))) ∧ Aside0 (Below w.heap.size w w'))
  case atStart => exact ⟨(0),(y505),(0),(by first | rfl | (simp; done) | (simp [*]; done) | (simp [wrap64]; done)),(by first | rfl | (simp; done) | (simp [*]; done) | (simp [wrap64]; done)),H',⟨Nat.le_refl _⟩,⟨by (with_reducible repeat (first | apply Kd.S_alloc | apply Kd.S_drewN | apply Kd.S_drew)); exact HO507.out⟩,⟨mvb BK494.out⟩,⟨mvh HB.out⟩⟩
  case round =>
   clear H'
   (try clear c1); (try clear p2); (try clear c3); (try clear p4); (try clear c6); (try clear c6b0); (try clear c6b1); (try clear p6); (try clear c8); (try clear c8b0); (try clear c8b1); (try clear c10); (try clear c11); (try clear c11b0); (try clear c11b1); (try clear c12); (try clear c12b0); (try clear c12b1)
   (try clear c13); (try clear c13b0); (try clear c13b1); (try clear c15); (try clear hcz15_0); (try clear hcz15_1); (try clear hcz15_2); (try clear hcz15_3); (try clear hcz18_0); (try clear hcz18_1); (try clear hcz18_2); (try clear hcz18_3); (try clear hfz15_0); (try clear hfz15_1); (try clear hfz15_2)
   (try clear hfz15_3); (try clear hfz18_0); (try clear hfz18_1); (try clear hfz18_2); (try clear hfz18_3)
   obtain ⟨x9_1,x17_1,x64_1,rfl,rfl,HA,HK1,HO_17,BK494,HB⟩ := hrel
   have hl17_1 := (Kd.S_reads' HO_17.out).1
   rw [hl17_1] at HO_17
   (try simp only [hl17_1])
   (try simp only [hl17_1] at BK494)
   cases gk with
   | zero => exact absurd HA.out (by simp [reedsol_Unstripe.l0])
   | succ k1 =>
    have H := HA.out
    clear HA
    simp only [reedsol_Unstripe.l0] at H
    by_cases c22 : x64_1 < (y505.length : Int)
    rotate_left
    ·rw [if_neg c22] at H
     have c22b0 : decide (x64_1 < (y505.length : Int)) = false := decide_eq_false c22
     (try simp only [hl17_1] at c22b0)
     clear c22
     replace H := Option.bind_eq_some_iff.mp H
     obtain ⟨t508,A640,H⟩ := H
     try dsimp only at H
     have A64 := Aside0.mk A640
     clear A640
     simp only [Option.some.injEq,Prod.mk.injEq] at H
     obtain ⟨rfl,rfl,rfl⟩ := H
     go_wp2_with (first | (go_at_call 33; (with_reducible refine (reedsol_together.calls k1 _ _ x17_1 t508 _ ?side1 ?side2 A64.out).mono ?_); (case side1 => exact mvC (Kd.S_reads' HO_17.out).2.2); (case side2 => exact (Kd.S_reads' HO_17.out).2.1); rintro e w65 ⟨v509,rfl,ho0,hb⟩; replace HO_17 := aK (Kd.S_elder' (by (with_reducible repeat (first | apply Kd.S_alloc | apply Kd.S_drewN | apply Kd.S_drew)); exact HO_17.out) (Kd.R_base ho0) hb); have HO510 := aK (Kd.R_lower ho0 (below_size (mvh HB.out))); replace BK494 := aK (kb BK494.out hb); replace HB := aK (below_step (mvh HB.out) hb); (try clear hb); (try clear ho0)) | go_quiet (fail))
     go_ret3
     exact ⟨_,by first | rfl | (simp [errW_none,errW_some] <;> rfl) | (simp [*,errW_none,errW_some] <;> rfl),Kd.R_lower (mvR HO510.out) HB00.out.size,below_step HB00.out (mvh HB.out)⟩
    rw [if_pos c22] at H
    have c22b0 : decide (x64_1 < (y505.length : Int)) = true := decide_eq_true c22
    (try simp only [hl17_1] at c22b0)
    clear c22
    replace H := Option.bind_eq_some_iff.mp H
    obtain ⟨t511,A230,H⟩ := H
    try dsimp only at H
    have A23 := Aside0.mk A230
    clear A230
    have H' := Aside0.mk H
    clear H
    go_wp2_with (first | (go_at_call 32; (with_reducible refine (reedsol_apart.calls k1 _ _ l1 x64_1 a2 t511 _ ?side1 ?side2 A23.out).mono ?_); (case side1 => exact Kd.C_below HR1.out (mvh HB.out)); (case side2 => exact HC1.out); rintro e w24 ⟨v512,rfl,ho0,hb⟩; replace HO_17 := aK (Kd.S_elder' (by (with_reducible repeat (first | apply Kd.S_alloc | apply Kd.S_drewN | apply Kd.S_drew)); exact HO_17.out) (Kd.R_base ho0) hb); have HO513 := aK (Kd.R_lower ho0 (below_size (mvh HB.out))); replace BK494 := aK (kb BK494.out hb); replace HB := aK (below_step (mvh HB.out) hb); (try clear hb); (try clear ho0)) | go_quiet (fail))
    go_loopg [20,73] k1 (fun kq v20 v73 w' => ∃ (x20_2 : List Int) (x73_2 : Int),v73 = .int .i64 x73_2 ∧ Aside0 (reedsol_Unstripe.l1 kq l1 a2 l3 x9_1 t495 (wrap64 ((wrap64 ((l1.length : Int) / a2)) - a0_3)) x17_1 x64_1 t511 x20_2 (y505.length : Int) x64_1 l3 (l3.length : Int) x73_2 = some (r1,r2,r3)) ∧ Aside0 (kq ≤ k1) ∧ Aside0 (Kd.S (Kd.slice 5 (Kd.int .u8)) 27 w' w.heap.size (fun k_ => some k_ ≠ (v512 : Value).ownBlock) (.slice Ao21 x17_1.length co21) x17_1) ∧ Aside0 (Kd.R (Kd.int .u8) 5 w' w.heap.size (fun _ => True) v512 t511) ∧ Aside0 (Kd.R (Kd.int .i64) 3 w' w.heap.size (fun _ => True) v20 x20_2) ∧ Aside0 (w'.heap[gb494]? = some (.cells #[.int .i64 a0_0,.int .u64 a0_1,.int .i64 a0_2,.int .i64 a0_3] 26 (0,0))) ∧ Aside0 (Below w.heap.size w w'))
    case atStart => exact ⟨(([] : List Int)),(0),(by first | rfl | (simp; done) | (simp [*]; done) | (simp [wrap64]; done)),H',⟨Nat.le_refl _⟩,⟨by (try simp only [hl17_1]); (with_reducible repeat (first | apply Kd.S_alloc | apply Kd.S_drewN | apply Kd.S_drew)); exact Kd.S_mono HO_17.out (fun _ hk => hk.2)⟩,⟨by (try simp only [hl17_1]); exact mvR HO513.out⟩,⟨by (try simp only [hl17_1]); first | exact Kd.R_nil _ _ _ _ _ | exact Kd.N_nil _ _ _ _ _ | exact Kd.V_nil _ _ _ _ _ | exact Kd.Q_nil _ _ _ _ _ | exact Kd.S_nil _ _ _ _ _⟩,⟨by (try simp only [hl17_1]); exact mvb BK494.out⟩,⟨mvh HB.out⟩⟩
    case round =>
     clear H'
     (try clear c1); (try clear c2); (try clear p2); (try clear c3); (try clear p4); (try clear c6); (try clear c6b0); (try clear c6b1); (try clear p6); (try clear c8); (try clear c8b0); (try clear c8b1); (try clear c10); (try clear c11); (try clear c11b0); (try clear c11b1); (try clear c12); (try clear c12b0)
     (try clear c12b1); (try clear c13); (try clear c13b0); (try clear c13b1); (try clear c15); (try clear c22); (try clear c22b0); (try clear hcz15_0); (try clear hcz15_1); (try clear hcz15_2); (try clear hcz15_3); (try clear hcz18_0); (try clear hcz18_1); (try clear hcz18_2); (try clear hcz18_3)
     (try clear hfz15_0); (try clear hfz15_1); (try clear hfz15_2); (try clear hfz15_3); (try clear hfz18_0); (try clear hfz18_1); (try clear hfz18_2); (try clear hfz18_3); (try clear p2); (try clear p4); (try clear p6)
     obtain ⟨x20_2,x73_2,rfl,HA,HK2,HO_17,HO_19,HO_20,BK494,HB⟩ := hrel
     cases gk with
     | zero => exact absurd HA.out (by simp [reedsol_Unstripe.l1])
     | succ k2 =>
      have H := HA.out
      clear HA
      simp only [reedsol_Unstripe.l1] at H
      by_cases c25 : x73_2 < (l3.length : Int)
      ·rw [if_pos c25] at H
       have c25b0 : decide (x73_2 < (l3.length : Int)) = true := decide_eq_true c25
       (try simp only [hl17_1] at c25b0)
       clear c25
       by_cases c26 : 0 ≤ x73_2
       rotate_left
       ·rw [if_neg c26] at H
        exact absurd H (by simp)
       rw [if_pos c26] at H
       have c26b0 : decide (0 ≤ x73_2) = true := decide_eq_true c26
       clear c26
       by_cases c27 : x73_2 < (l3.length : Int)
       rotate_left
       ·rw [if_neg c27] at H
        exact absurd H (by simp)
       rw [if_pos c27] at H
       have c27b0 : decide (x73_2 < (l3.length : Int)) = true := decide_eq_true c27
       (try simp only [hl17_1] at c27b0)
       clear c27
       by_cases c28 : a2 = 0
       ·rw [if_pos c28] at H
        exact absurd H (by simp)
       ·rw [if_neg c28] at H
        have c28b0 : (a2 == 0) = false := beq_eq_false_iff_ne.mpr c28
        have c28b1 : (a2 != 0) = true := bne_iff_ne.mpr c28
        by_cases c29 : (Int.tmod (rd l3 x73_2) a2) = x64_1
        rotate_left
        ·rw [if_neg c29] at H
         have c29b0 : ((Int.tmod (rd l3 x73_2) a2) == x64_1) = false := beq_eq_false_iff_ne.mpr c29
         have c29b1 : ((Int.tmod (rd l3 x73_2) a2) != x64_1) = true := bne_iff_ne.mpr c29
         have H' := Aside0.mk H
         clear H
         have p514 : 0 ≤ (x73_2 : Int) := oD
         have q514 : x73_2 < (l3.length : Int) := oD
         obtain ⟨ad514,e514,hx514_0⟩ := Kd.at_int HR3.out x73_2 p514 q514
         cases e514
         replace hx514_0 := (HB.out.cell (World.block_lt_of_cell? w _ hx514_0)).trans hx514_0
         replace p514 := eq_true p514
         replace q514 := eq_true q514
         go_wp2
         repeat (go_quiet (fail); try go_wp2)
         go_roundg k2
         case measure => have := HK1.out; have := HK2.out; omega
         case rel => exact ⟨(x20_2),(wrap64 (x73_2 + 1)),(by first | rfl | (simp; done) | (simp [*]; done) | (simp [wrap64]; done)),H',⟨by have := HK1.out; have := HK2.out; omega⟩,⟨by (try simp only [hl17_1]); (with_reducible repeat (first | apply Kd.S_alloc | apply Kd.S_drewN | apply Kd.S_drew)); exact HO_17.out⟩,⟨by (try simp only [hl17_1]); exact mvR HO_19.out⟩,⟨by (try simp only [hl17_1]); exact mvR HO_20.out⟩,⟨by (try simp only [hl17_1]); exact mvb BK494.out⟩,⟨mvh HB.out⟩⟩
        rw [if_pos c29] at H
        have c29b0 : ((Int.tmod (rd l3 x73_2) a2) == x64_1) = true := beq_iff_eq.mpr c29
        have c29b1 : ((Int.tmod (rd l3 x73_2) a2) != x64_1) = false := bne_eq_false_iff_eq.mpr c29
        clear c29
        by_cases c30 : x20_2.length < 17592186044416
        rotate_left
        ·rw [if_neg c30] at H
         exact absurd H (by simp)
        rw [if_pos c30] at H
        have LMc30 := Aside0.mk c30
        clear c30
        obtain ⟨y515,hy515⟩ : ∃ y_ : List Int,y_ = (x20_2 ++ [wrap64 (Int.tdiv (rd l3 x73_2) a2)]) := ⟨_,rfl⟩
        replace H : (reedsol_Unstripe.l1 k2 l1 a2 l3 x9_1 t495 (wrap64 ((wrap64 ((l1.length : Int) / a2)) - a0_3)) x17_1 x64_1 t511 y515 (y505.length : Int) x64_1 l3 (l3.length : Int) (wrap64 (x73_2 + 1))) = some (r1,r2,r3) := by rw [hy515]; exact H
        have Ny515 := Aside0.mk hy515
        clear hy515
        have H' := Aside0.mk H
        clear H
        have p514 : 0 ≤ (x73_2 : Int) := oD
        have q514 : x73_2 < (l3.length : Int) := oD
        obtain ⟨ad514,e514,hx514_0⟩ := Kd.at_int HR3.out x73_2 p514 q514
        cases e514
        replace hx514_0 := (HB.out.cell (World.block_lt_of_cell? w _ hx514_0)).trans hx514_0
        replace p514 := eq_true p514
        replace q514 := eq_true q514
        go_wp2_with (first | ((with_reducible refine gate_builtin (b := .append) (xs := #[.tmp 82,.tmp 86]) rfl ?_); at_builtin; refine Kd.R_append (Kd.int .i64) (w0 := w) w.heap.size rfl (.tmp 82) (.tmp 86) 36 3 (.int .i64 0) 8 rfl Try.underlying36 info3 rfl (by decide) (by omega) u20 x20_2 (wrap64 (Int.tdiv (rd l3 x73_2) a2)) [.int .i64 (wrap64 (Int.tdiv (rd l3 x73_2) a2))] (fun _ => True) (fun _ => False) rfl rfl ?aP (fun _ hk => hk.elim) ?aF ?aO ?aB ?aS ?aL ?_; (case aP => exact rfl); (case aB => exact (mvh HB.out)); (case aF => exact (fun _ _ => trivial)); (case aO => exact (mvR HO_20.out)); (case aS => exact (below_size (mvh HB.out))); (case aL => have := LMc30.out; omega); intro v516 w31 ho hb hg hat; rw [← Ny515.out] at ho; replace HO_17 := aK (Kd.S_over' (by (with_reducible repeat (first | apply Kd.S_alloc | apply Kd.S_drewN | apply Kd.S_drew)); exact HO_17.out) (Kd.R_typed (mvR HO_20.out)) (by decide) hg); replace HO_19 := aK (Kd.R_over' (mvR HO_19.out) (Kd.R_typed (mvR HO_20.out)) (by decide) hg); replace BK494 := aK (blk_grown (g := gb494) (o := .cells #[.int .i64 a0_0,.int .u64 a0_1,.int .i64 a0_2,.int .i64 a0_3] 26 (0,0)) (mvb BK494.out) hg (Kd.R_ne HO_20.out BK494.out (by decide))); replace HB := aK (hb); have HO517 := aK (ho); clear HO_20; clear ho hb hg hat) | go_quiet (fail))
        go_roundg k2
        case measure => have := HK1.out; have := HK2.out; omega
        case rel => exact ⟨(y515),(wrap64 (x73_2 + 1)),(by first | rfl | (simp; done) | (simp [*]; done) | (simp [wrap64]; done)),H',⟨by have := HK1.out; have := HK2.out; omega⟩,⟨by (try simp only [hl17_1]); (with_reducible repeat (first | apply Kd.S_alloc | apply Kd.S_drewN | apply Kd.S_drew)); exact HO_17.out⟩,⟨by (try simp only [hl17_1]); exact mvR HO_19.out⟩,⟨by (try simp only [hl17_1]); exact mvR HO517.out⟩,⟨by (try simp only [hl17_1]); exact mvb BK494.out⟩,⟨mvh HB.out⟩⟩
      ·rw [if_neg c25] at H
       have c25b0 : decide (x73_2 < (l3.length : Int)) = false := decide_eq_false c25
       (try simp only [hl17_1] at c25b0)
       clear c25
       replace H := Option.bind_eq_some_iff.mp H
       obtain ⟨⟨t518,t519,t520⟩,A320,H⟩ := H
       try dsimp only at H
       have A32 := Aside0.mk A320
       clear A320
       replace H := Option.bind_eq_some_iff.mp H
       obtain ⟨⟨t523,t524⟩,A330,H⟩ := H
       try dsimp only at H
       have A33 := Aside0.mk A330
       clear A330
       by_cases c34 : t524 = true
       ·subst c34
        have H1 : (if 0 ≤ (wrap64 ((wrap64 ((l1.length : Int) / a2)) - a0_3)) then (if (wrap64 ((wrap64 ((l1.length : Int) / a2)) - a0_3)) ≤ (t523.length : Int) then (if 0 ≤ x64_1 then (if x64_1 < (x17_1.length : Int) then (reedsol_Unstripe.l0 k2 l1 a2 l3 x9_1 t495 (wrap64 ((wrap64 ((l1.length : Int) / a2)) - a0_3)) (x17_1.set (x64_1 : Int).toNat (t523.take ((wrap64 ((wrap64 ((l1.length : Int) / a2)) - a0_3)) : Int).toNat)) (y505.length : Int) (wrap64 (x64_1 + 1))) else (none)) else (none)) else (none)) else (none)) = some (r1,r2,r3) := by rw [if_pos rfl] at H; exact H
        clear H
        have H := H1
        clear H1
        obtain ⟨ji35,hji35⟩ : ∃ j_ : Int,(wrap64 ((wrap64 ((l1.length : Int) / a2)) - a0_3)) = j_ := ⟨_,rfl⟩
        first | rw [hji35] at H | simp only [hji35] at H
        (try rw [hji35] at A32)
        (try rw [hji35] at A33)
        have hji35w : (IntKind.i64.wrap ((wrap64 ((l1.length : Int) / a2)) - a0_3)) = ji35 := (i64_w _).trans hji35
        by_cases c36 : 0 ≤ (ji35)
        rotate_left
        ·rw [if_neg c36] at H
         exact absurd H (by simp)
        rw [if_pos c36] at H
        have c36b0 := eq_true c36
        have c36b1 : decide (0 ≤ (ji35)) = true := decide_eq_true c36
        clear c36
        by_cases c37 : (ji35) ≤ (t523.length : Int)
        rotate_left
        ·rw [if_neg c37] at H
         exact absurd H (by simp)
        rw [if_pos c37] at H
        have c37b0 := eq_true c37
        have c37b1 : decide ((ji35) ≤ (t523.length : Int)) = true := decide_eq_true c37
        clear c37
        obtain ⟨y527,hy527⟩ : ∃ y_ : List Int,y_ = (t523.take ((ji35) : Int).toNat) := ⟨_,rfl⟩
        replace H : (if 0 ≤ x64_1 then (if x64_1 < (x17_1.length : Int) then (reedsol_Unstripe.l0 k2 l1 a2 l3 x9_1 t495 (ji35) (x17_1.set (x64_1 : Int).toNat y527) (y505.length : Int) (wrap64 (x64_1 + 1))) else (none)) else (none)) = some (r1,r2,r3) := by rw [hy527]; exact H
        have Ny527 := Aside0.mk hy527
        clear hy527
        by_cases c38 : 0 ≤ x64_1
        rotate_left
        ·rw [if_neg c38] at H
         exact absurd H (by simp)
        rw [if_pos c38] at H
        have c38b0 : decide (0 ≤ x64_1) = true := decide_eq_true c38
        clear c38
        by_cases c39 : x64_1 < (x17_1.length : Int)
        rotate_left
        ·rw [if_neg c39] at H
         exact absurd H (by simp)
        rw [if_pos c39] at H
        have c39b0 : decide (x64_1 < (x17_1.length : Int)) = true := decide_eq_true c39
        (try simp only [hl17_1] at c39b0)
        clear c39
        obtain ⟨y530,hy530⟩ : ∃ y_ : List (List Int),y_ = (x17_1.set (x64_1 : Int).toNat y527) := ⟨_,rfl⟩
        replace H : (reedsol_Unstripe.l0 k2 l1 a2 l3 x9_1 t495 (ji35) y530 (y505.length : Int) (wrap64 (x64_1 + 1))) = some (r1,r2,r3) := by rw [hy530]; exact H
        have Ny530 := Aside0.mk hy530
        clear hy530
        have H' := Aside0.mk H
        clear H
        obtain ⟨Ao41,co41,eo41⟩ := Kd.R_slice HO_19.out
        subst eo41
        obtain ⟨Ao42,co42,eo42⟩ := Kd.R_slice HO_20.out
        subst eo42
        go_wp2_with (first | (go_at_call 30; (with_reducible refine (reedsol_places.calls k2 (t511.length : Int) _ _ x20_2 t518 t519 t520 _ ?side1 ?side2 A32.out).mono ?_); (case side1 => exact mvC (Kd.R_reads' HO_20.out).2.2); (case side2 => exact (Kd.R_reads' HO_20.out).2.1); rintro e w43 ⟨v521,rfl,ho0,hb⟩; replace HO_17 := aK (Kd.S_below (by (with_reducible repeat (first | apply Kd.S_alloc | apply Kd.S_drewN | apply Kd.S_drew)); exact HO_17.out) hb); replace HO_19 := aK (Kd.R_below (mvR HO_19.out) hb); replace HO_20 := aK (Kd.R_below (mvR HO_20.out) hb); have HO522 := aK (Kd.R_lower ho0 (below_size (mvh HB.out))); replace BK494 := aK (kb BK494.out hb); replace HB := aK (below_step (mvh HB.out) hb); (try clear hb); (try clear ho0); obtain ⟨Ao44,co44,eo44⟩ := Kd.R_slice HO522.out; subst eo44) | (go_at_call 31; (with_reducible refine (reedsol_code_mend.calls k2 _ t495 _ _ t511 _ _ t518 t519 t523 true _ ?side1 ?side2 ?side3 ?side4 ?side5 A33.out).mono ?_); (case side1 => exact (rs_OK_below HT497.out (mvh HB.out))); (case side2 => exact mvC (Kd.R_reads' HO_19.out).2.2); (case side3 => exact (Kd.R_reads' HO_19.out).2.1); (case side4 => exact mvC (Kd.R_reads' HO522.out).2.2); (case side5 => exact (Kd.R_reads' HO522.out).2.1); rintro e w45 ⟨v525,rfl,ho0,hb⟩; replace HO_17 := aK (Kd.S_elder' (by (with_reducible repeat (first | apply Kd.S_alloc | apply Kd.S_drewN | apply Kd.S_drew)); exact HO_17.out) (Kd.R_base ho0) hb); replace HO_20 := aK (Kd.R_below (mvR HO_20.out) hb); replace HO522 := aK (Kd.R_below (mvR HO522.out) hb); have HO526 := aK (Kd.R_lower (Kd.R_new' ho0 (Kd.R_lt (mvR HO_19.out))) (below_size (mvh HB.out))); replace HO_19 := aK (Kd.R_elder' (mvR HO_19.out) (Kd.R_base ho0) hb); replace BK494 := aK (kb BK494.out hb); replace HB := aK (below_step (mvh HB.out) hb); (try clear hb); (try clear ho0); obtain ⟨Ao46,co46,eo46⟩ := Kd.R_slice HO526.out; subst eo46; have q47 : ((ji35) : Int) ≤ ((t523.length : Int) : Int) := oD; obtain ⟨i047,hi047,_,hsz47,_⟩ := info_parts info5; have hcut47 := cut_to (P := Try.prog) 27 5 .i64 Try.underlying27 hi047 Ao46 t523.length co46 (ji35) oD q47 (Kd.R_reads' HO526.out).2.1; have hr47 := Kd.R_take (m := ((ji35) : Int).toNat) HO526.out (by omega); have hy47 : y527.length = ((ji35) : Int).toNat := (by rw [Ny527.out,List.length_take]; omega); rw [← Ny527.out] at hr47; rw [← hy47] at hr47 hcut47; clear hy47 hi047 hsz47 HO526; have HO529 := Aside0.mk hr47; clear hr47; replace q47 := eq_true q47; have p40 : 0 ≤ (x64_1 : Int) := oD; have q40 : (x64_1 : Int) < ((x17_1.length : Int) : Int) := oD; obtain ⟨go40,co40,eo40,gb40,gl40,cl40,HG40⟩ := Kd.S_form HO_17.out (by omega); (first | cases eo40 | (injection eo40 with ea_ en_ ec_; (first | subst ea_ | (injection ea_ with ea_; subst ea_)); subst ec_; clear en_)); have GB40 := Aside0.mk gb40; have GG40 := Aside0.mk HG40; clear gb40 gl40 HG40; obtain ⟨_,ce40,hcl40,hM40,hcc40,hfr40,_,_⟩ := Kd.S_elem HO_17.out [] (x64_1 : Int) p40 q40; obtain ⟨ve40_0,rfl,ge40_0⟩ := hM40; have hx40_0 := hcc40 0 _ rfl; have hf40_0 := hfr40 0; (try simp only [show ((Kd.slice 5 (Kd.int .u8))).sz = 1 from rfl,Nat.mul_one,Nat.add_zero] at hx40_0); (try simp only [show ((Kd.slice 5 (Kd.int .u8))).sz = 1 from rfl,Nat.mul_one,Nat.add_zero] at hf40_0); clear hcl40 hcc40 hfr40; (try clear hM40); replace p40 := eq_true p40; replace q40 := eq_true q40; have HX48 := aK (show Kd.S (Kd.slice 5 (Kd.int .u8)) 27 w45 w.heap.size (fun k_ => ((fun k_ => some k_ ≠ (.slice Ao41 t511.length co41 : Value).ownBlock)) k_ ∧ ¬ ((fun k_ => some k_ = (.slice Ao46 y527.length co46 : Value).ownBlock)) k_) (.slice (some ⟨go40,0,none⟩) x17_1.length co21) x17_1 from (by (with_reducible repeat (first | apply Kd.S_alloc | apply Kd.S_drewN | apply Kd.S_drew)); exact Kd.S_mono HO_17.out (fun k_ hk => ⟨hk.1,fun e_ => hk.2 (by first | exact e_ | exact e_.trans ob_len)⟩))); obtain ⟨oki48,ce48,hcl48,hM48,hcc48,hfr48,hoki48,hH48⟩ := Kd.S_elem HX48.out [] (x64_1 : Int) oD (by have h_ : (x64_1 : Int) < ((x17_1.length : Int) : Int) := oD; first | exact h_ | (have e_ := (Kd.S_reads' HO_17.out).1; omega) | simpa using h_); obtain ⟨ve48_0,rfl,ge48_0⟩ := hM48; have HP48 := Kd.S_seg hH48 oD (by have h_ : (x64_1 : Int) < ((x17_1.length : Int) : Int) := oD; first | exact h_ | (have e_ := (Kd.S_reads' HO_17.out).1; omega) | simpa using h_) (seg := [.slice Ao46 y527.length co46]) (j := 0) (show 1 ≤ 1 from by decide) (x' := y527) (Kd.M_row (Kd.R_mono (Kd.R_tight rfl (Kd.R_mono (ok' := fun k_ => ((fun k_ => some k_ ≠ (.slice Ao41 t511.length co41 : Value).ownBlock)) k_ ∧ k_ ≠ go40) (Kd.R_apart' (HO529.out) (Kd.S_typed HO_17.out) (by decide)) (fun k_ hk => ⟨hk.1.2,fun e_ => (hk.2) (by rw [e_]; rfl)⟩))) (fun _ h_ => Or.inr (h_)))) (fun _ hk => hk) (fun k_ hk_ => ((Kd.R_mono (ok' := fun k_ => ((fun k_ => some k_ ≠ (.slice Ao41 t511.length co41 : Value).ownBlock)) k_ ∧ k_ ≠ go40) (Kd.R_apart' (HO529.out) (Kd.S_typed HO_17.out) (by decide)) (fun k_ hk => ⟨hk.1.2,fun e_ => (hk.2) (by rw [e_]; rfl)⟩))).1 k_ hk_.symm); have hx48_0 := hcc48 0 _ rfl; (try simp only [show ((Kd.slice 5 (Kd.int .u8))).sz = 1 from rfl,Nat.mul_one,Nat.add_zero] at hx48_0); have hf48_0 := hfr48 0; (try simp only [show ((Kd.slice 5 (Kd.int .u8))).sz = 1 from rfl,Nat.mul_one,Nat.add_zero] at hf48_0); clear hcl48 hcc48 hfr48 hoki48 hH48; (try clear hM48); (try simp only [show ((Kd.slice 5 (Kd.int .u8))).sz = 1 from rfl,Nat.mul_one,Nat.add_zero] at HP48)) | ((with_reducible refine gate_store (t := 27) (p := 115) rfl ?_); (try (rw [drewN_self w45]; generalize hq_ : World.drewN w45 _ = w45; replace HO_17 := aK (Kd.S_at hq_ HO_17.out); replace HO_19 := aK (Kd.R_at hq_ HO_19.out); replace HO_20 := aK (Kd.R_at hq_ HO_20.out); replace HO522 := aK (Kd.R_at hq_ HO522.out); replace BK494 := aK (blk_at hq_ BK494.out); replace HB := aK (below_at hq_ HB.out); clear hq_; (try (have HX48 := aK (show Kd.S (Kd.slice 5 (Kd.int .u8)) 27 w45 w.heap.size (fun k_ => ((fun k_ => some k_ ≠ (.slice Ao41 t511.length co41 : Value).ownBlock)) k_ ∧ ¬ ((fun k_ => some k_ = (.slice Ao46 y527.length co46 : Value).ownBlock)) k_) (.slice (some ⟨go40,0,none⟩) x17_1.length co21) x17_1 from (by (with_reducible repeat (first | apply Kd.S_alloc | apply Kd.S_drewN | apply Kd.S_drew)); exact Kd.S_mono HO_17.out (fun k_ hk => ⟨hk.1,fun e_ => hk.2 (by first | exact e_ | exact e_.trans ob_len)⟩))))); (try (obtain ⟨oki48,ce48,hcl48,hM48,hcc48,hfr48,hoki48,hH48⟩ := Kd.S_elem HX48.out [] (x64_1 : Int) oD (by have h_ : (x64_1 : Int) < ((x17_1.length : Int) : Int) := oD; first | exact h_ | (have e_ := (Kd.S_reads' HO_17.out).1; omega) | simpa using h_))); (try (obtain ⟨ve48_0,rfl,ge48_0⟩ := hM48)); (try (have HP48 := Kd.S_seg hH48 oD (by have h_ : (x64_1 : Int) < ((x17_1.length : Int) : Int) := oD; first | exact h_ | (have e_ := (Kd.S_reads' HO_17.out).1; omega) | simpa using h_) (seg := [.slice Ao46 y527.length co46]) (j := 0) (show 1 ≤ 1 from by decide) (x' := y527) (Kd.M_row (Kd.R_mono (Kd.R_tight rfl (Kd.R_mono (ok' := fun k_ => ((fun k_ => some k_ ≠ (.slice Ao41 t511.length co41 : Value).ownBlock)) k_ ∧ k_ ≠ go40) (Kd.R_apart' (HO529.out) (Kd.S_typed HO_17.out) (by decide)) (fun k_ hk => ⟨hk.1.2,fun e_ => (hk.2) (by rw [e_]; rfl)⟩))) (fun _ h_ => Or.inr (h_)))) (fun _ hk => hk) (fun k_ hk_ => ((Kd.R_mono (ok' := fun k_ => ((fun k_ => some k_ ≠ (.slice Ao41 t511.length co41 : Value).ownBlock)) k_ ∧ k_ ≠ go40) (Kd.R_apart' (HO529.out) (Kd.S_typed HO_17.out) (by decide)) (fun k_ hk => ⟨hk.1.2,fun e_ => (hk.2) (by rw [e_]; rfl)⟩))).1 k_ hk_.symm))); (try (have hx48_0 := hcc48 0 _ rfl)); (try (try simp only [show ((Kd.slice 5 (Kd.int .u8))).sz = 1 from rfl,Nat.mul_one,Nat.add_zero] at hx48_0)); (try (have hf48_0 := hfr48 0)); (try (try simp only [show ((Kd.slice 5 (Kd.int .u8))).sz = 1 from rfl,Nat.mul_one,Nat.add_zero] at hf48_0)); (try (clear hcl48 hcc48 hfr48 hoki48 hH48; (try clear hM48))); (try (try simp only [show ((Kd.slice 5 (Kd.int .u8))).sz = 1 from rfl,Nat.mul_one,Nat.add_zero] at HP48)))); refine store_event (t := 27) (p := 115) (v := ?vo_w49) (w1 := (w45.setCell ⟨go40,(x64_1 : Int).toNat,none⟩ (.slice Ao46 y527.length co46))) ?hg ?ho ?hn ?hr ?_; (case ho => rfl); (case hg => rfl); (case hn => rfl); (case hr => first | (go_simp; done) | (go_simp; rfl)); intro w49 hw; have hg : w45.grownBy w49 (some go40) := (by rw [hw]; exact HP48.2); have hp_ : Kd.S (Kd.slice 5 (Kd.int .u8)) 27 w49 w.heap.size (fun k_ => some k_ ≠ (.slice Ao41 t511.length co41 : Value).ownBlock) (.slice (some ⟨go40,0,none⟩) x17_1.length co21) y530 := (by rw [hw,Ny530.out]; exact HP48.1); clear HP48; replace HO_19 := aK (Kd.R_over' (v := (.slice (some ⟨go40,0,none⟩) x17_1.length co21)) (mvR HO_19.out) (Kd.S_typed HO_17.out) (by decide) hg); replace HO_20 := aK (Kd.R_over' (v := (.slice (some ⟨go40,0,none⟩) x17_1.length co21)) (mvR HO_20.out) (Kd.S_typed HO_17.out) (by decide) hg); replace BK494 := aK (blk_grown (g := gb494) (o := .cells #[.int .i64 a0_0,.int .u64 a0_1,.int .i64 a0_2,.int .i64 a0_3] 26 (0,0)) (mvb BK494.out) hg (Kd.S_ne HO_17.out BK494.out (by decide))); replace HO522 := aK (Kd.R_over' (v := (.slice (some ⟨go40,0,none⟩) x17_1.length co21)) (mvR HO522.out) (Kd.S_typed HO_17.out) (by decide) hg); replace HO_17 := aK (hp_); replace HB := aK ((by rw [hw]; exact below_set (HB.out) GB40.out : Below w.heap.size w w49)); clear HO529; clear hg hw hp_) | go_quiet (fail))
        (try simp only [← hl17_1])
        (try subst hji35)
        go_roundg k2
        case measure => have := HK1.out; have := HK2.out; omega
        case rel => exact ⟨(x9_1),(y530),(wrap64 (x64_1 + 1)),(by first | rfl | (simp; done) | (simp [*]; done) | (simp [wrap64]; done)),(by first | rfl | (simp; done) | (simp [*]; done) | (simp [wrap64]; done)),H',⟨by have := HK1.out; have := HK2.out; omega⟩,⟨by (try simp only [hl17_1]); (with_reducible repeat (first | apply Kd.S_alloc | apply Kd.S_drewN | apply Kd.S_drew)); exact Kd.S_mono HO_17.out (fun _ hk => trivial)⟩,⟨by (try simp only [hl17_1]); exact mvb BK494.out⟩,⟨mvh HB.out⟩⟩
       ·replace c34 := Bool.eq_false_iff.mpr c34
        subst c34
        have H1 : (if 0 ≤ (wrap64 ((wrap64 ((l1.length : Int) / a2)) - a0_3)) then (if (wrap64 ((wrap64 ((l1.length : Int) / a2)) - a0_3)) ≤ (t511.length : Int) then (if 0 ≤ x64_1 then (if x64_1 < (x17_1.length : Int) then (reedsol_Unstripe.l0 k2 l1 a2 l3 (wrap64 (x9_1 + 1)) t495 (wrap64 ((wrap64 ((l1.length : Int) / a2)) - a0_3)) (x17_1.set (x64_1 : Int).toNat (t511.take ((wrap64 ((wrap64 ((l1.length : Int) / a2)) - a0_3)) : Int).toNat)) (y505.length : Int) (wrap64 (x64_1 + 1))) else (none)) else (none)) else (none)) else (none)) = some (r1,r2,r3) := by rw [if_neg (show ¬ (false = true) by decide)] at H; exact H
        clear H
        have H := H1
        clear H1
        obtain ⟨ji50,hji50⟩ : ∃ j_ : Int,(wrap64 ((wrap64 ((l1.length : Int) / a2)) - a0_3)) = j_ := ⟨_,rfl⟩
        first | rw [hji50] at H | simp only [hji50] at H
        (try rw [hji50] at A32)
        (try rw [hji50] at A33)
        have hji50w : (IntKind.i64.wrap ((wrap64 ((l1.length : Int) / a2)) - a0_3)) = ji50 := (i64_w _).trans hji50
        by_cases c51 : 0 ≤ (ji50)
        rotate_left
        ·rw [if_neg c51] at H
         exact absurd H (by simp)
        rw [if_pos c51] at H
        have c51b0 := eq_true c51
        have c51b1 : decide (0 ≤ (ji50)) = true := decide_eq_true c51
        clear c51
        by_cases c52 : (ji50) ≤ (t511.length : Int)
        rotate_left
        ·rw [if_neg c52] at H
         exact absurd H (by simp)
        rw [if_pos c52] at H
        have c52b0 := eq_true c52
        have c52b1 : decide ((ji50) ≤ (t511.length : Int)) = true := decide_eq_true c52
        clear c52
        obtain ⟨y531,hy531⟩ : ∃ y_ : List Int,y_ = (t511.take ((ji50) : Int).toNat) := ⟨_,rfl⟩
        replace H : (if 0 ≤ x64_1 then (if x64_1 < (x17_1.length : Int) then (reedsol_Unstripe.l0 k2 l1 a2 l3 (wrap64 (x9_1 + 1)) t495 (ji50) (x17_1.set (x64_1 : Int).toNat y531) (y505.length : Int) (wrap64 (x64_1 + 1))) else (none)) else (none)) = some (r1,r2,r3) := by rw [hy531]; exact H
        have Ny531 := Aside0.mk hy531
        clear hy531
        by_cases c53 : 0 ≤ x64_1
        rotate_left
        ·rw [if_neg c53] at H
         exact absurd H (by simp)
        rw [if_pos c53] at H
        have c53b0 : decide (0 ≤ x64_1) = true := decide_eq_true c53
        clear c53
        by_cases c54 : x64_1 < (x17_1.length : Int)
        rotate_left
        ·rw [if_neg c54] at H
         exact absurd H (by simp)
        rw [if_pos c54] at H
        have c54b0 : decide (x64_1 < (x17_1.length : Int)) = true := decide_eq_true c54
        (try simp only [hl17_1] at c54b0)
        clear c54
        obtain ⟨y534,hy534⟩ : ∃ y_ : List (List Int),y_ = (x17_1.set (x64_1 : Int).toNat y531) := ⟨_,rfl⟩
        replace H : (reedsol_Unstripe.l0 k2 l1 a2 l3 (wrap64 (x9_1 + 1)) t495 (ji50) y534 (y505.length : Int) (wrap64 (x64_1 + 1))) = some (r1,r2,r3) := by rw [hy534]; exact H
        have Ny534 := Aside0.mk hy534
        clear hy534
        have H' := Aside0.mk H
        clear H
        obtain ⟨Ao56,co56,eo56⟩ := Kd.R_slice HO_19.out
        subst eo56
        obtain ⟨Ao57,co57,eo57⟩ := Kd.R_slice HO_20.out
        subst eo57
        go_wp2_with (first | (go_at_call 30; (with_reducible refine (reedsol_places.calls k2 (t511.length : Int) _ _ x20_2 t518 t519 t520 _ ?side1 ?side2 A32.out).mono ?_); (case side1 => exact mvC (Kd.R_reads' HO_20.out).2.2); (case side2 => exact (Kd.R_reads' HO_20.out).2.1); rintro e w58 ⟨v521,rfl,ho0,hb⟩; replace HO_17 := aK (Kd.S_below (by (with_reducible repeat (first | apply Kd.S_alloc | apply Kd.S_drewN | apply Kd.S_drew)); exact HO_17.out) hb); replace HO_19 := aK (Kd.R_below (mvR HO_19.out) hb); replace HO_20 := aK (Kd.R_below (mvR HO_20.out) hb); have HO522 := aK (Kd.R_lower ho0 (below_size (mvh HB.out))); replace BK494 := aK (kb BK494.out hb); replace HB := aK (below_step (mvh HB.out) hb); (try clear hb); (try clear ho0); obtain ⟨Ao59,co59,eo59⟩ := Kd.R_slice HO522.out; subst eo59) | (go_at_call 31; (with_reducible refine (reedsol_code_mend.calls k2 _ t495 _ _ t511 _ _ t518 t519 t523 false _ ?side1 ?side2 ?side3 ?side4 ?side5 A33.out).mono ?_); (case side1 => exact (rs_OK_below HT497.out (mvh HB.out))); (case side2 => exact mvC (Kd.R_reads' HO_19.out).2.2); (case side3 => exact (Kd.R_reads' HO_19.out).2.1); (case side4 => exact mvC (Kd.R_reads' HO522.out).2.2); (case side5 => exact (Kd.R_reads' HO522.out).2.1); rintro e w60 ⟨v525,rfl,ho0,hb⟩; replace HO_17 := aK (Kd.S_elder' (by (with_reducible repeat (first | apply Kd.S_alloc | apply Kd.S_drewN | apply Kd.S_drew)); exact HO_17.out) (Kd.R_base ho0) hb); replace HO_20 := aK (Kd.R_below (mvR HO_20.out) hb); replace HO522 := aK (Kd.R_below (mvR HO522.out) hb); have HO526 := aK (Kd.R_lower (Kd.R_new' ho0 (Kd.R_lt (mvR HO_19.out))) (below_size (mvh HB.out))); replace HO_19 := aK (Kd.R_elder' (mvR HO_19.out) (Kd.R_base ho0) hb); replace BK494 := aK (kb BK494.out hb); replace HB := aK (below_step (mvh HB.out) hb); (try clear hb); (try clear ho0); have q61 : ((ji50) : Int) ≤ ((t511.length : Int) : Int) := oD; obtain ⟨i061,hi061,_,hsz61,_⟩ := info_parts info5; have hcut61 := cut_to (P := Try.prog) 27 5 .i64 Try.underlying27 hi061 Ao56 t511.length co56 (ji50) oD q61 (Kd.R_reads' HO_19.out).2.1; have hr61 := Kd.R_take (m := ((ji50) : Int).toNat) HO_19.out (by omega); have hy61 : y531.length = ((ji50) : Int).toNat := (by rw [Ny531.out,List.length_take]; omega); rw [← Ny531.out] at hr61; rw [← hy61] at hr61 hcut61; clear hy61 hi061 hsz61 HO_19; have HO533 := Aside0.mk hr61; clear hr61; replace q61 := eq_true q61; have p55 : 0 ≤ (x64_1 : Int) := oD; have q55 : (x64_1 : Int) < ((x17_1.length : Int) : Int) := oD; obtain ⟨go55,co55,eo55,gb55,gl55,cl55,HG55⟩ := Kd.S_form HO_17.out (by omega); (first | cases eo55 | (injection eo55 with ea_ en_ ec_; (first | subst ea_ | (injection ea_ with ea_; subst ea_)); subst ec_; clear en_)); have GB55 := Aside0.mk gb55; have GG55 := Aside0.mk HG55; clear gb55 gl55 HG55; obtain ⟨_,ce55,hcl55,hM55,hcc55,hfr55,_,_⟩ := Kd.S_elem HO_17.out [] (x64_1 : Int) p55 q55; obtain ⟨ve55_0,rfl,ge55_0⟩ := hM55; have hx55_0 := hcc55 0 _ rfl; have hf55_0 := hfr55 0; (try simp only [show ((Kd.slice 5 (Kd.int .u8))).sz = 1 from rfl,Nat.mul_one,Nat.add_zero] at hx55_0); (try simp only [show ((Kd.slice 5 (Kd.int .u8))).sz = 1 from rfl,Nat.mul_one,Nat.add_zero] at hf55_0); clear hcl55 hcc55 hfr55; (try clear hM55); replace p55 := eq_true p55; replace q55 := eq_true q55; have HX62 := aK (show Kd.S (Kd.slice 5 (Kd.int .u8)) 27 w60 w.heap.size (fun k_ => ((fun k_ => some k_ ≠ (v525 : Value).ownBlock)) k_ ∧ ¬ ((fun k_ => some k_ = (.slice Ao56 y531.length co56 : Value).ownBlock)) k_) (.slice (some ⟨go55,0,none⟩) x17_1.length co21) x17_1 from (by (with_reducible repeat (first | apply Kd.S_alloc | apply Kd.S_drewN | apply Kd.S_drew)); exact Kd.S_mono HO_17.out (fun k_ hk => ⟨hk.2,fun e_ => hk.1 (by first | exact e_ | exact e_.trans ob_len)⟩))); obtain ⟨oki62,ce62,hcl62,hM62,hcc62,hfr62,hoki62,hH62⟩ := Kd.S_elem HX62.out [] (x64_1 : Int) oD (by have h_ : (x64_1 : Int) < ((x17_1.length : Int) : Int) := oD; first | exact h_ | (have e_ := (Kd.S_reads' HO_17.out).1; omega) | simpa using h_); obtain ⟨ve62_0,rfl,ge62_0⟩ := hM62; have HP62 := Kd.S_seg hH62 oD (by have h_ : (x64_1 : Int) < ((x17_1.length : Int) : Int) := oD; first | exact h_ | (have e_ := (Kd.S_reads' HO_17.out).1; omega) | simpa using h_) (seg := [.slice Ao56 y531.length co56]) (j := 0) (show 1 ≤ 1 from by decide) (x' := y531) (Kd.M_row (Kd.R_mono (Kd.R_tight rfl (Kd.R_mono (ok' := fun k_ => ((fun k_ => some k_ ≠ (v525 : Value).ownBlock)) k_ ∧ k_ ≠ go55) (Kd.R_apart' (HO533.out) (Kd.S_typed HO_17.out) (by decide)) (fun k_ hk => ⟨hk.1.2,fun e_ => (hk.2) (by rw [e_]; rfl)⟩))) (fun _ h_ => Or.inr (h_)))) (fun _ hk => hk) (fun k_ hk_ => ((Kd.R_mono (ok' := fun k_ => ((fun k_ => some k_ ≠ (v525 : Value).ownBlock)) k_ ∧ k_ ≠ go55) (Kd.R_apart' (HO533.out) (Kd.S_typed HO_17.out) (by decide)) (fun k_ hk => ⟨hk.1.2,fun e_ => (hk.2) (by rw [e_]; rfl)⟩))).1 k_ hk_.symm); have hx62_0 := hcc62 0 _ rfl; (try simp only [show ((Kd.slice 5 (Kd.int .u8))).sz = 1 from rfl,Nat.mul_one,Nat.add_zero] at hx62_0); have hf62_0 := hfr62 0; (try simp only [show ((Kd.slice 5 (Kd.int .u8))).sz = 1 from rfl,Nat.mul_one,Nat.add_zero] at hf62_0); clear hcl62 hcc62 hfr62 hoki62 hH62; (try clear hM62); (try simp only [show ((Kd.slice 5 (Kd.int .u8))).sz = 1 from rfl,Nat.mul_one,Nat.add_zero] at HP62)) | ((with_reducible refine gate_store (t := 27) (p := 115) rfl ?_); (try (rw [drewN_self w60]; generalize hq_ : World.drewN w60 _ = w60; replace HO_17 := aK (Kd.S_at hq_ HO_17.out); replace HO_20 := aK (Kd.R_at hq_ HO_20.out); replace HO522 := aK (Kd.R_at hq_ HO522.out); replace HO526 := aK (Kd.R_at hq_ HO526.out); replace BK494 := aK (blk_at hq_ BK494.out); replace HB := aK (below_at hq_ HB.out); clear hq_; (try (have HX62 := aK (show Kd.S (Kd.slice 5 (Kd.int .u8)) 27 w60 w.heap.size (fun k_ => ((fun k_ => some k_ ≠ (v525 : Value).ownBlock)) k_ ∧ ¬ ((fun k_ => some k_ = (.slice Ao56 y531.length co56 : Value).ownBlock)) k_) (.slice (some ⟨go55,0,none⟩) x17_1.length co21) x17_1 from (by (with_reducible repeat (first | apply Kd.S_alloc | apply Kd.S_drewN | apply Kd.S_drew)); exact Kd.S_mono HO_17.out (fun k_ hk => ⟨hk.2,fun e_ => hk.1 (by first | exact e_ | exact e_.trans ob_len)⟩))))); (try (obtain ⟨oki62,ce62,hcl62,hM62,hcc62,hfr62,hoki62,hH62⟩ := Kd.S_elem HX62.out [] (x64_1 : Int) oD (by have h_ : (x64_1 : Int) < ((x17_1.length : Int) : Int) := oD; first | exact h_ | (have e_ := (Kd.S_reads' HO_17.out).1; omega) | simpa using h_))); (try (obtain ⟨ve62_0,rfl,ge62_0⟩ := hM62)); (try (have HP62 := Kd.S_seg hH62 oD (by have h_ : (x64_1 : Int) < ((x17_1.length : Int) : Int) := oD; first | exact h_ | (have e_ := (Kd.S_reads' HO_17.out).1; omega) | simpa using h_) (seg := [.slice Ao56 y531.length co56]) (j := 0) (show 1 ≤ 1 from by decide) (x' := y531) (Kd.M_row (Kd.R_mono (Kd.R_tight rfl (Kd.R_mono (ok' := fun k_ => ((fun k_ => some k_ ≠ (v525 : Value).ownBlock)) k_ ∧ k_ ≠ go55) (Kd.R_apart' (HO533.out) (Kd.S_typed HO_17.out) (by decide)) (fun k_ hk => ⟨hk.1.2,fun e_ => (hk.2) (by rw [e_]; rfl)⟩))) (fun _ h_ => Or.inr (h_)))) (fun _ hk => hk) (fun k_ hk_ => ((Kd.R_mono (ok' := fun k_ => ((fun k_ => some k_ ≠ (v525 : Value).ownBlock)) k_ ∧ k_ ≠ go55) (Kd.R_apart' (HO533.out) (Kd.S_typed HO_17.out) (by decide)) (fun k_ hk => ⟨hk.1.2,fun e_ => (hk.2) (by rw [e_]; rfl)⟩))).1 k_ hk_.symm))); (try (have hx62_0 := hcc62 0 _ rfl)); (try (try simp only [show ((Kd.slice 5 (Kd.int .u8))).sz = 1 from rfl,Nat.mul_one,Nat.add_zero] at hx62_0)); (try (have hf62_0 := hfr62 0)); (try (try simp only [show ((Kd.slice 5 (Kd.int .u8))).sz = 1 from rfl,Nat.mul_one,Nat.add_zero] at hf62_0)); (try (clear hcl62 hcc62 hfr62 hoki62 hH62; (try clear hM62))); (try (try simp only [show ((Kd.slice 5 (Kd.int .u8))).sz = 1 from rfl,Nat.mul_one,Nat.add_zero] at HP62)))); refine store_event (t := 27) (p := 115) (v := ?vo_w63) (w1 := (w60.setCell ⟨go55,(x64_1 : Int).toNat,none⟩ (.slice Ao56 y531.length co56))) ?hg ?ho ?hn ?hr ?_; (case ho => rfl); (case hg => rfl); (case hn => rfl); (case hr => first | (go_simp; done) | (go_simp; rfl)); intro w63 hw; have hg : w60.grownBy w63 (some go55) := (by rw [hw]; exact HP62.2); have hp_ : Kd.S (Kd.slice 5 (Kd.int .u8)) 27 w63 w.heap.size (fun k_ => some k_ ≠ (v525 : Value).ownBlock) (.slice (some ⟨go55,0,none⟩) x17_1.length co21) y534 := (by rw [hw,Ny534.out]; exact HP62.1); clear HP62; replace HO_20 := aK (Kd.R_over' (v := (.slice (some ⟨go55,0,none⟩) x17_1.length co21)) (mvR HO_20.out) (Kd.S_typed HO_17.out) (by decide) hg); replace BK494 := aK (blk_grown (g := gb494) (o := .cells #[.int .i64 a0_0,.int .u64 a0_1,.int .i64 a0_2,.int .i64 a0_3] 26 (0,0)) (mvb BK494.out) hg (Kd.S_ne HO_17.out BK494.out (by decide))); replace HO522 := aK (Kd.R_over' (v := (.slice (some ⟨go55,0,none⟩) x17_1.length co21)) (mvR HO522.out) (Kd.S_typed HO_17.out) (by decide) hg); replace HO526 := aK (Kd.R_over' (v := (.slice (some ⟨go55,0,none⟩) x17_1.length co21)) (mvR HO526.out) (Kd.S_typed HO_17.out) (by decide) hg); replace HO_17 := aK (hp_); replace HB := aK ((by rw [hw]; exact below_set (HB.out) GB55.out : Below w.heap.size w w63)); clear HO533; clear hg hw hp_) | go_quiet (fail))
        (try simp only [← hl17_1])
        (try subst hji50)
        go_roundg k2
        case measure => have := HK1.out; have := HK2.out; omega
        case rel => exact ⟨(wrap64 (x9_1 + 1)),(y534),(wrap64 (x64_1 + 1)),(by first | rfl | (simp; done) | (simp [*]; done) | (simp [wrap64]; done)),(by first | rfl | (simp; done) | (simp [*]; done) | (simp [wrap64]; done)),H',⟨by have := HK1.out; have := HK2.out; omega⟩,⟨by (try simp only [hl17_1]); (with_reducible repeat (first | apply Kd.S_alloc | apply Kd.S_drewN | apply Kd.S_drew)); exact Kd.S_mono HO_17.out (fun _ hk => trivial)⟩,⟨by (try simp only [hl17_1]); exact mvb BK494.out⟩,⟨mvh HB.out⟩⟩
end Go.Proofs.Ytpgecdidddoglaa.P

