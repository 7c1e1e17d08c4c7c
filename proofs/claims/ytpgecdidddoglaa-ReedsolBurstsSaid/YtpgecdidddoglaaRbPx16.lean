-- written by mk.sh, a program of this session, over the kit's print
import Derived.Test.YtpgecdidddoglaaRbQAux
import Derived.Test.YtpgecdidddoglaaRbPx0
import Derived.Test.YtpgecdidddoglaaRbPx6
import Derived.Test.YtpgecdidddoglaaRbPx7
import Derived.Test.YtpgecdidddoglaaRbPx9
import Derived.Test.YtpgecdidddoglaaRbPx10
import Derived.Test.YtpgecdidddoglaaRbPx15
namespace Go.Proofs.Ytpgecdidddoglaa.P
open Go.RowKit Go.Proofs.YtpgecdidddoglaaW.PrintWords Go.Proofs.YtpgecdidddoglaaW.PrintLast Go.Proofs.YtpgecdidddoglaaW.PrintMore
attribute [local go_sem] max2_int min2_int max_two min_two max_three min_three max_four min_four   -- for this text's walks alone
set_option linter.unusedVariables false
set_option linter.unusedSimpArgs false

def reedsol_Decode.l0 : Nat → List Int → Int → List Int → Int → Int → Int → Int → Int → Int → Option (List Int × Int × Int)
 | 0,_,_,_,_,_,_,_,_,_ => none
 | k + 1,x1,x7,x14,x52,x53,x359000,x359001,x359002,x359003 => if x53 < x52 then (if 0 ≤ x53 then (if x53 < (x14.length : Int) then (if x53 < (x1.length : Int) then (if (rd x14 x53) = (rd x1 x53) then (reedsol_Decode.l0 k x1 x7 x14 x52 (wrap64 (x53 + 1)) x359000 x359001 x359002 x359003) else (reedsol_Decode.l0 k x1 (wrap64 (x7 + 1)) x14 x52 (wrap64 (x53 + 1)) x359000 x359001 x359002 x359003)) else (none)) else (none)) else (none)) else (if 0 ≤ (wrap64 ((x14.length : Int) - x359003)) then (if (wrap64 ((x14.length : Int) - x359003)) ≤ (x14.length : Int) then (some ((x14.take ((wrap64 ((x14.length : Int) - x359003)) : Int).toNat),x7,0)) else (none)) else (none))
def reedsol_Decode.f (k : Nat) (a0_0 : Int) (a0_1 : Int) (a0_2 : Int) (a0_3 : Int) (l1 : List Int) (l2 : List Int) : Option (List Int × Int × Int) := (reedsol_open.f k a0_0 a0_1 a0_2 a0_3).bind fun bt359 => (if bt359.2 = 0 then ((reedsol_code_fits.f k bt359.1 l1).bind fun t363 => (if t363 = 0 then ((reedsol_places.f k (l1.length : Int) l2).bind fun bt364 => (if bt364.2.2 = true then ((reedsol_code_mend.f k bt359.1 l1 bt364.1 bt364.2.1).bind fun bt369 => (if bt369.2 = true then (reedsol_Decode.l0 k l1 0 bt369.1 (bt369.1.length : Int) 0 a0_0 a0_1 a0_2 a0_3) else (some (([] : List Int),0,331)))) else (some (([] : List Int),0,3)))) else (some (([] : List Int),0,t363)))) else (some (([] : List Int),0,bt359.2)))
theorem reedsol_Decode.mono_l : ∀ k,(∀ y0 y1 y2 y3 y4 y5 y6 y7 y8,LeO (reedsol_Decode.l0 k y0 y1 y2 y3 y4 y5 y6 y7 y8) (reedsol_Decode.l0 (k + 1) y0 y1 y2 y3 y4 y5 y6 y7 y8))
 | 0 => fun _ _ _ _ _ _ _ _ _ r h => by simp [reedsol_Decode.l0] at h
 | k + 1 => by
  have ih0 := reedsol_Decode.mono_l k
  ·intro y0 y1 y2 y3 y4 y5 y6 y7 y8
   unfold reedsol_Decode.l0
   repeat' with_reducible first
   | exact ih0 _ _ _ _ _ _ _ _ _
   | exact reedsol_code_fits.mono _ _ _
   | exact reedsol_code_mend.mono _ _ _ _ _
   | exact reedsol_open.mono _ _ _ _ _
   | exact reedsol_places.mono _ _ _
   | exact LeO.refl _
   | exact LeO.none _
   | refine LeO.ite ?_ ?_
   | refine LeO.bind ?_ (fun _ => ?_)
theorem reedsol_Decode.mono : ∀ a0 a1 a2 a3 a4 a5 k,LeO (reedsol_Decode.f k a0 a1 a2 a3 a4 a5) (reedsol_Decode.f (k + 1) a0 a1 a2 a3 a4 a5) := by
 intro a0 a1 a2 a3 a4 a5 k
 have ih0 := reedsol_Decode.mono_l k
 unfold reedsol_Decode.f
 repeat' with_reducible first
   | exact ih0 _ _ _ _ _ _ _ _ _
   | exact reedsol_code_fits.mono _ _ _
   | exact reedsol_code_mend.mono _ _ _ _ _
   | exact reedsol_open.mono _ _ _ _ _
   | exact reedsol_places.mono _ _ _
   | exact LeO.refl _
   | exact LeO.none _
   | refine LeO.ite ?_ ?_
   | refine LeO.bind ?_ (fun _ => ?_)
set_option maxHeartbeats 8000000 in
set_option maxRecDepth 100000 in
theorem reedsol_Decode.calls (k : Nat) (a0_0 : Int) (a0_1 : Int) (a0_2 : Int) (a0_3 : Int) (A1 : Option Addr) (c1 : Nat) (l1 : List Int) (A2 : Option Addr) (c2 : Nat) (l2 : List Int) (r1 : List Int) (r2 : Int) (r3 : Int) (w : World) (hr1 : Kd.C (Kd.int .u8) w A1 l1.length l1) (hc1 : l1.length ≤ c1) (hr2 : Kd.C (Kd.int .i64) w A2 l2.length l2) (hc2 : l2.length ≤ c2) (h : reedsol_Decode.f k a0_0 a0_1 a0_2 a0_3 l1 l2 = some (r1,r2,r3)) :
  Calls Try.prog 13 #[.agg #[.int .i64 a0_0,.int .u64 a0_1,.int .i64 a0_2,.int .i64 a0_3],.slice A1 l1.length c1,.slice A2 l2.length c2] w fun e w' => ∃ v0_ : Value,e = .returned (.tuple #[v0_,.int .i64 r2,.int .i64 r3]) ∧ Kd.V (Kd.int .u8) 5 w' w.heap.size (fun k_ => (w.heap.size ≤ k_)) v0_ r1 ∧ Below w.heap.size w w' := by
 have hu26 := Try.underlying26
 have HR1 := Aside0.mk hr1
 have HC1 := Aside0.mk hc1
 clear hr1 hc1
 have HR2 := Aside0.mk hr2
 have HC2 := Aside0.mk hc2
 clear hr2 hc2
 have HB := aK (Below.refl w.heap.size w)
 have H : ((reedsol_open.f k a0_0 a0_1 a0_2 a0_3).bind fun bt359 => (if bt359.2 = 0 then ((reedsol_code_fits.f k bt359.1 l1).bind fun t363 => (if t363 = 0 then ((reedsol_places.f k (l1.length : Int) l2).bind fun bt364 => (if bt364.2.2 = true then ((reedsol_code_mend.f k bt359.1 l1 bt364.1 bt364.2.1).bind fun bt369 => (if bt369.2 = true then (reedsol_Decode.l0 k l1 0 bt369.1 (bt369.1.length : Int) 0 a0_0 a0_1 a0_2 a0_3) else (some (([] : List Int),0,331)))) else (some (([] : List Int),0,3)))) else (some (([] : List Int),0,t363)))) else (some (([] : List Int),0,bt359.2)))) = some (r1,r2,r3) := h
 clear h
 replace H := Option.bind_eq_some_iff.mp H
 obtain ⟨⟨t359,t362⟩,A40,H⟩ := H
 try dsimp only at H
 have A4 := Aside0.mk A40
 clear A40
 by_cases c5 : t362 = 0
 rotate_left
 ·rw [if_neg c5] at H
  have c5b0 : (t362 == 0) = false := beq_eq_false_iff_ne.mpr c5
  have c5b1 : (t362 != 0) = true := bne_iff_ne.mpr c5
  simp only [Option.some.injEq,Prod.mk.injEq] at H
  obtain ⟨rfl,rfl,rfl⟩ := H
  go_enter Try.func13,Try.ntmps13
  go_wp2_with (first | ((with_reducible refine gate_dst (N := 3) rfl ?_); refine box_event ?hg (N := 3) ?hd (cs := #[.int .i64 a0_0,.int .u64 a0_1,.int .i64 a0_2,.int .i64 a0_3]) (t := 26) ?hr ?_; (case hd => rfl); (case hg => rfl); (case hr => first | (go_simp; done) | (go_simp; rfl)); intro gb358 hg w42 hbox hb; have BK358 := aK (hbox); have GW358 := aK ((by rw [hg]; exact (below_size (mvh HB.out)) : w.heap.size ≤ gb358)); have GE358 := aK ((by rw [hg]; exact (below_size (mvh HB.out)) : w.heap.size ≤ gb358)); replace HB := aK (below_step (mvh HB.out) hb); clear hb hbox hg; obtain ⟨hcz43_0,hcz43_1,hcz43_2,hcz43_3,hfz43_0,hfz43_1,hfz43_2,hfz43_3⟩ := cf4 BK358.out) | (go_at_call 26; (with_reducible refine (reedsol_open.calls k a0_0 a0_1 a0_2 a0_3 t359 t362 _ A4.out).mono ?_); rintro e w ⟨Ap360,rfl,hT_,hb⟩; replace BK358 := aK (kb BK358.out hb); replace HR1 := aK (Kd.C_below HR1.out (below_step (mvh HB.out) hb)); replace HR2 := aK (Kd.C_below HR2.out (below_step (mvh HB.out) hb)); have HB00 := aK (below_step (mvh HB.out) hb); replace HB := aK (Below.refl w.heap.size w); have HT361 := Aside0.mk hT_; clear hb hT_) | go_quiet (fail))
  go_ret3
  exact ⟨_,by first | rfl | (simp [errW_none,errW_some] <;> rfl) | (simp [*,errW_none,errW_some] <;> rfl),Kd.V_lower (Kd.R_V (base := 0) (by first | exact Kd.R_nil _ _ _ _ _ | exact Kd.N_nil _ _ _ _ _ | exact Kd.V_nil _ _ _ _ _ | exact Kd.Q_nil _ _ _ _ _ | exact Kd.S_nil _ _ _ _ _)) HB00.out.size,below_step HB00.out (mvh HB.out)⟩


 rw [if_pos c5] at H
 have c5b0 : (t362 == 0) = true := beq_iff_eq.mpr c5
 have c5b1 : (t362 != 0) = false := bne_eq_false_iff_eq.mpr c5
 clear c5
 replace H := Option.bind_eq_some_iff.mp H
 obtain ⟨t363,A60,H⟩ := H
 try dsimp only at H
 have A6 := Aside0.mk A60
 clear A60
 by_cases c7 : t363 = 0
 rotate_left
 ·rw [if_neg c7] at H
  have c7b0 : (t363 == 0) = false := beq_eq_false_iff_ne.mpr c7
  have c7b1 : (t363 != 0) = true := bne_iff_ne.mpr c7
  simp only [Option.some.injEq,Prod.mk.injEq] at H
  obtain ⟨rfl,rfl,rfl⟩ := H
  go_enter Try.func13,Try.ntmps13
  go_wp2_with (first | ((with_reducible refine gate_dst (N := 3) rfl ?_); refine box_event ?hg (N := 3) ?hd (cs := #[.int .i64 a0_0,.int .u64 a0_1,.int .i64 a0_2,.int .i64 a0_3]) (t := 26) ?hr ?_; (case hd => rfl); (case hg => rfl); (case hr => first | (go_simp; done) | (go_simp; rfl)); intro gb358 hg w39 hbox hb; have BK358 := aK (hbox); have GW358 := aK ((by rw [hg]; exact (below_size (mvh HB.out)) : w.heap.size ≤ gb358)); have GE358 := aK ((by rw [hg]; exact (below_size (mvh HB.out)) : w.heap.size ≤ gb358)); replace HB := aK (below_step (mvh HB.out) hb); clear hb hbox hg; obtain ⟨hcz40_0,hcz40_1,hcz40_2,hcz40_3,hfz40_0,hfz40_1,hfz40_2,hfz40_3⟩ := cf4 BK358.out) | (go_at_call 26; (with_reducible refine (reedsol_open.calls k a0_0 a0_1 a0_2 a0_3 t359 t362 _ A4.out).mono ?_); rintro e w ⟨Ap360,rfl,hT_,hb⟩; replace BK358 := aK (kb BK358.out hb); replace HR1 := aK (Kd.C_below HR1.out (below_step (mvh HB.out) hb)); replace HR2 := aK (Kd.C_below HR2.out (below_step (mvh HB.out) hb)); have HB00 := aK (below_step (mvh HB.out) hb); replace HB := aK (Below.refl w.heap.size w); have HT361 := Aside0.mk hT_; clear hb hT_) | (go_at_call 29; (with_reducible refine (reedsol_code_fits.calls k _ t359 _ _ l1 t363 _ ?side1 ?side2 ?side3 A6.out).mono ?_); (case side1 => exact HT361.out); (case side2 => exact mvC HR1.out); (case side3 => exact HC1.out); rintro e w' ⟨rfl,⟨nd,rfl⟩⟩; (try first | exact ⟨rfl,_,World.drewN_drewN _ _ _⟩ | exact ⟨rfl,_,Eq.trans (World.drewN_drewN _ _ _) (congrArg (World.drewN _) (Nat.add_assoc _ _ _))⟩)) | go_quiet (first | (go_at_call 29; (with_reducible refine (reedsol_code_fits.calls k _ t359 _ _ l1 t363 _ ?side1 ?side2 ?side3 A6.out).mono ?_); (case side1 => exact HT361.out); (case side2 => exact mvC HR1.out); (case side3 => exact HC1.out); rintro e w' ⟨rfl,⟨nd,rfl⟩⟩; (try first | exact ⟨rfl,_,World.drewN_drewN _ _ _⟩ | exact ⟨rfl,_,Eq.trans (World.drewN_drewN _ _ _) (congrArg (World.drewN _) (Nat.add_assoc _ _ _))⟩))))
  go_ret3
  exact ⟨_,by first | rfl | (simp [errW_none,errW_some] <;> rfl) | (simp [*,errW_none,errW_some] <;> rfl),Kd.V_lower (Kd.R_V (base := 0) (by first | exact Kd.R_nil _ _ _ _ _ | exact Kd.N_nil _ _ _ _ _ | exact Kd.V_nil _ _ _ _ _ | exact Kd.Q_nil _ _ _ _ _ | exact Kd.S_nil _ _ _ _ _)) HB00.out.size,below_step HB00.out (mvh HB.out)⟩
 rw [if_pos c7] at H
 have c7b0 : (t363 == 0) = true := beq_iff_eq.mpr c7
 have c7b1 : (t363 != 0) = false := bne_eq_false_iff_eq.mpr c7
 clear c7
 replace H := Option.bind_eq_some_iff.mp H
 obtain ⟨⟨t364,t365,t366⟩,A80,H⟩ := H
 try dsimp only at H
 have A8 := Aside0.mk A80
 clear A80
 by_cases c9 : t366 = true
 rotate_left
 ·replace c9 := Bool.eq_false_iff.mpr c9
  subst c9
  have H1 : (some (([] : List Int),0,3)) = some (r1,r2,r3) := by rw [if_neg (show ¬ (false = true) by decide)] at H; exact H
  clear H
  have H := H1
  clear H1
  simp only [Option.some.injEq,Prod.mk.injEq] at H
  obtain ⟨rfl,rfl,rfl⟩ := H
  go_enter Try.func13,Try.ntmps13
  go_wp2_with (first | ((with_reducible refine gate_dst (N := 3) rfl ?_); refine box_event ?hg (N := 3) ?hd (cs := #[.int .i64 a0_0,.int .u64 a0_1,.int .i64 a0_2,.int .i64 a0_3]) (t := 26) ?hr ?_; (case hd => rfl); (case hg => rfl); (case hr => first | (go_simp; done) | (go_simp; rfl)); intro gb358 hg w35 hbox hb; have BK358 := aK (hbox); have GW358 := aK ((by rw [hg]; exact (below_size (mvh HB.out)) : w.heap.size ≤ gb358)); have GE358 := aK ((by rw [hg]; exact (below_size (mvh HB.out)) : w.heap.size ≤ gb358)); replace HB := aK (below_step (mvh HB.out) hb); clear hb hbox hg; obtain ⟨hcz36_0,hcz36_1,hcz36_2,hcz36_3,hfz36_0,hfz36_1,hfz36_2,hfz36_3⟩ := cf4 BK358.out) | (go_at_call 26; (with_reducible refine (reedsol_open.calls k a0_0 a0_1 a0_2 a0_3 t359 t362 _ A4.out).mono ?_); rintro e w ⟨Ap360,rfl,hT_,hb⟩; replace BK358 := aK (kb BK358.out hb); replace HR1 := aK (Kd.C_below HR1.out (below_step (mvh HB.out) hb)); replace HR2 := aK (Kd.C_below HR2.out (below_step (mvh HB.out) hb)); have HB00 := aK (below_step (mvh HB.out) hb); replace HB := aK (Below.refl w.heap.size w); have HT361 := Aside0.mk hT_; clear hb hT_) | (go_at_call 29; (with_reducible refine (reedsol_code_fits.calls k _ t359 _ _ l1 t363 _ ?side1 ?side2 ?side3 A6.out).mono ?_); (case side1 => exact HT361.out); (case side2 => exact mvC HR1.out); (case side3 => exact HC1.out); rintro e w' ⟨rfl,⟨nd,rfl⟩⟩; (try first | exact ⟨rfl,_,World.drewN_drewN _ _ _⟩ | exact ⟨rfl,_,Eq.trans (World.drewN_drewN _ _ _) (congrArg (World.drewN _) (Nat.add_assoc _ _ _))⟩)) | (go_at_call 30; (with_reducible refine (reedsol_places.calls k (l1.length : Int) _ _ l2 t364 t365 false _ ?side1 ?side2 A8.out).mono ?_); (case side1 => exact mvC HR2.out); (case side2 => exact HC2.out); rintro e w38 ⟨v367,rfl,ho0,hb⟩; have HO368 := aK (Kd.R_lower (Kd.R_newM (M := fun k_ => (w.heap.size ≤ k_)) ho0 (below_size (mvh HB.out)) (fun k_ h_ => h_)) (below_size (mvh HB.out))); replace BK358 := aK (kb BK358.out hb); replace HB := aK (below_step (mvh HB.out) hb); (try clear hb); (try clear ho0)) | go_quiet (first | (go_at_call 29; (with_reducible refine (reedsol_code_fits.calls k _ t359 _ _ l1 t363 _ ?side1 ?side2 ?side3 A6.out).mono ?_); (case side1 => exact HT361.out); (case side2 => exact mvC HR1.out); (case side3 => exact HC1.out); rintro e w' ⟨rfl,⟨nd,rfl⟩⟩; (try first | exact ⟨rfl,_,World.drewN_drewN _ _ _⟩ | exact ⟨rfl,_,Eq.trans (World.drewN_drewN _ _ _) (congrArg (World.drewN _) (Nat.add_assoc _ _ _))⟩))))
  go_ret3
  exact ⟨_,by first | rfl | (simp [errW_none,errW_some] <;> rfl) | (simp [*,errW_none,errW_some] <;> rfl),Kd.V_lower (Kd.R_V (base := 0) (by first | exact Kd.R_nil _ _ _ _ _ | exact Kd.N_nil _ _ _ _ _ | exact Kd.V_nil _ _ _ _ _ | exact Kd.Q_nil _ _ _ _ _ | exact Kd.S_nil _ _ _ _ _)) HB00.out.size,below_step HB00.out (mvh HB.out)⟩
 subst c9
 have H1 : ((reedsol_code_mend.f k t359 l1 t364 t365).bind fun bt369 => (if bt369.2 = true then (reedsol_Decode.l0 k l1 0 bt369.1 (bt369.1.length : Int) 0 a0_0 a0_1 a0_2 a0_3) else (some (([] : List Int),0,331)))) = some (r1,r2,r3) := by rw [if_pos rfl] at H; exact H
 clear H
 have H := H1
 clear H1
 replace H := Option.bind_eq_some_iff.mp H
 obtain ⟨⟨t369,t370⟩,A100,H⟩ := H
 try dsimp only at H
 have A10 := Aside0.mk A100
 clear A100
 by_cases c11 : t370 = true
 rotate_left
 ·replace c11 := Bool.eq_false_iff.mpr c11
  subst c11
  have H1 : (some (([] : List Int),0,331)) = some (r1,r2,r3) := by rw [if_neg (show ¬ (false = true) by decide)] at H; exact H
  clear H
  have H := H1
  clear H1
  simp only [Option.some.injEq,Prod.mk.injEq] at H
  obtain ⟨rfl,rfl,rfl⟩ := H
  go_enter Try.func13,Try.ntmps13
  go_wp2_with (first | ((with_reducible refine gate_dst (N := 3) rfl ?_); refine box_event ?hg (N := 3) ?hd (cs := #[.int .i64 a0_0,.int .u64 a0_1,.int .i64 a0_2,.int .i64 a0_3]) (t := 26) ?hr ?_; (case hd => rfl); (case hg => rfl); (case hr => first | (go_simp; done) | (go_simp; rfl)); intro gb358 hg w29 hbox hb; have BK358 := aK (hbox); have GW358 := aK ((by rw [hg]; exact (below_size (mvh HB.out)) : w.heap.size ≤ gb358)); have GE358 := aK ((by rw [hg]; exact (below_size (mvh HB.out)) : w.heap.size ≤ gb358)); replace HB := aK (below_step (mvh HB.out) hb); clear hb hbox hg; obtain ⟨hcz30_0,hcz30_1,hcz30_2,hcz30_3,hfz30_0,hfz30_1,hfz30_2,hfz30_3⟩ := cf4 BK358.out) | (go_at_call 26; (with_reducible refine (reedsol_open.calls k a0_0 a0_1 a0_2 a0_3 t359 t362 _ A4.out).mono ?_); rintro e w ⟨Ap360,rfl,hT_,hb⟩; replace BK358 := aK (kb BK358.out hb); replace HR1 := aK (Kd.C_below HR1.out (below_step (mvh HB.out) hb)); replace HR2 := aK (Kd.C_below HR2.out (below_step (mvh HB.out) hb)); have HB00 := aK (below_step (mvh HB.out) hb); replace HB := aK (Below.refl w.heap.size w); have HT361 := Aside0.mk hT_; clear hb hT_) | (go_at_call 29; (with_reducible refine (reedsol_code_fits.calls k _ t359 _ _ l1 t363 _ ?side1 ?side2 ?side3 A6.out).mono ?_); (case side1 => exact HT361.out); (case side2 => exact mvC HR1.out); (case side3 => exact HC1.out); rintro e w' ⟨rfl,⟨nd,rfl⟩⟩; (try first | exact ⟨rfl,_,World.drewN_drewN _ _ _⟩ | exact ⟨rfl,_,Eq.trans (World.drewN_drewN _ _ _) (congrArg (World.drewN _) (Nat.add_assoc _ _ _))⟩)) | (go_at_call 30; (with_reducible refine (reedsol_places.calls k (l1.length : Int) _ _ l2 t364 t365 true _ ?side1 ?side2 A8.out).mono ?_); (case side1 => exact mvC HR2.out); (case side2 => exact HC2.out); rintro e w32 ⟨v367,rfl,ho0,hb⟩; have HO368 := aK (Kd.R_lower (Kd.R_newM (M := fun k_ => (w.heap.size ≤ k_)) ho0 (below_size (mvh HB.out)) (fun k_ h_ => h_)) (below_size (mvh HB.out))); replace BK358 := aK (kb BK358.out hb); replace HB := aK (below_step (mvh HB.out) hb); (try clear hb); (try clear ho0); obtain ⟨Ao33,co33,eo33⟩ := Kd.R_slice HO368.out; subst eo33) | (go_at_call 31; (with_reducible refine (reedsol_code_mend.calls k _ t359 _ _ l1 _ _ t364 t365 t369 false _ ?side1 ?side2 ?side3 ?side4 ?side5 A10.out).mono ?_); (case side1 => exact (rs_OK_below HT361.out HB.out)); (case side2 => exact Kd.C_below HR1.out (mvh HB.out)); (case side3 => exact HC1.out); (case side4 => exact mvC (Kd.R_reads' HO368.out).2.2); (case side5 => exact (Kd.R_reads' HO368.out).2.1); rintro e w34 ⟨v371,rfl,ho0,hb⟩; replace HO368 := aK (Kd.R_below (mvR HO368.out) hb); have HO372 := aK (Kd.R_lower (Kd.R_newM (M := fun k_ => (w.heap.size ≤ k_)) ho0 (below_size (mvh HB.out)) (fun k_ h_ => h_)) (below_size (mvh HB.out))); replace BK358 := aK (kb BK358.out hb); replace HB := aK (below_step (mvh HB.out) hb); (try clear hb); (try clear ho0)) | go_quiet (first | (go_at_call 29; (with_reducible refine (reedsol_code_fits.calls k _ t359 _ _ l1 t363 _ ?side1 ?side2 ?side3 A6.out).mono ?_); (case side1 => exact HT361.out); (case side2 => exact mvC HR1.out); (case side3 => exact HC1.out); rintro e w' ⟨rfl,⟨nd,rfl⟩⟩; (try first | exact ⟨rfl,_,World.drewN_drewN _ _ _⟩ | exact ⟨rfl,_,Eq.trans (World.drewN_drewN _ _ _) (congrArg (World.drewN _) (Nat.add_assoc _ _ _))⟩))))
  go_ret3
  exact ⟨_,by first | rfl | (simp [errW_none,errW_some] <;> rfl) | (simp [*,errW_none,errW_some] <;> rfl),Kd.V_lower (Kd.R_V (base := 0) (by first | exact Kd.R_nil _ _ _ _ _ | exact Kd.N_nil _ _ _ _ _ | exact Kd.V_nil _ _ _ _ _ | exact Kd.Q_nil _ _ _ _ _ | exact Kd.S_nil _ _ _ _ _)) HB00.out.size,below_step HB00.out (mvh HB.out)⟩
 subst c11
 have H1 : (reedsol_Decode.l0 k l1 0 t369 (t369.length : Int) 0 a0_0 a0_1 a0_2 a0_3) = some (r1,r2,r3) := by rw [if_pos rfl] at H; exact H
 clear H
 have H := H1
 clear H1
 have H' := Aside0.mk H
 clear H
 go_enter Try.func13,Try.ntmps13
 go_wp2_with (first | ((with_reducible refine gate_dst (N := 3) rfl ?_); refine box_event ?hg (N := 3) ?hd (cs := #[.int .i64 a0_0,.int .u64 a0_1,.int .i64 a0_2,.int .i64 a0_3]) (t := 26) ?hr ?_; (case hd => rfl); (case hg => rfl); (case hr => first | (go_simp; done) | (go_simp; rfl)); intro gb358 hg w12 hbox hb; have BK358 := aK (hbox); have GW358 := aK ((by rw [hg]; exact (below_size (mvh HB.out)) : w.heap.size ≤ gb358)); have GE358 := aK ((by rw [hg]; exact (below_size (mvh HB.out)) : w.heap.size ≤ gb358)); replace HB := aK (below_step (mvh HB.out) hb); clear hb hbox hg; obtain ⟨hcz13_0,hcz13_1,hcz13_2,hcz13_3,hfz13_0,hfz13_1,hfz13_2,hfz13_3⟩ := cf4 BK358.out) | (go_at_call 26; (with_reducible refine (reedsol_open.calls k a0_0 a0_1 a0_2 a0_3 t359 t362 _ A4.out).mono ?_); rintro e w ⟨Ap360,rfl,hT_,hb⟩; replace BK358 := aK (kb BK358.out hb); replace HR1 := aK (Kd.C_below HR1.out (below_step (mvh HB.out) hb)); replace HR2 := aK (Kd.C_below HR2.out (below_step (mvh HB.out) hb)); have HB00 := aK (below_step (mvh HB.out) hb); replace HB := aK (Below.refl w.heap.size w); have HT361 := Aside0.mk hT_; clear hb hT_) | (go_at_call 29; (with_reducible refine (reedsol_code_fits.calls k _ t359 _ _ l1 t363 _ ?side1 ?side2 ?side3 A6.out).mono ?_); (case side1 => exact HT361.out); (case side2 => exact mvC HR1.out); (case side3 => exact HC1.out); rintro e w' ⟨rfl,⟨nd,rfl⟩⟩; (try first | exact ⟨rfl,_,World.drewN_drewN _ _ _⟩ | exact ⟨rfl,_,Eq.trans (World.drewN_drewN _ _ _) (congrArg (World.drewN _) (Nat.add_assoc _ _ _))⟩)) | (go_at_call 30; (with_reducible refine (reedsol_places.calls k (l1.length : Int) _ _ l2 t364 t365 true _ ?side1 ?side2 A8.out).mono ?_); (case side1 => exact mvC HR2.out); (case side2 => exact HC2.out); rintro e w15 ⟨v367,rfl,ho0,hb⟩; have HO368 := aK (Kd.R_lower (Kd.R_newM (M := fun k_ => (w.heap.size ≤ k_)) ho0 (below_size (mvh HB.out)) (fun k_ h_ => h_)) (below_size (mvh HB.out))); replace BK358 := aK (kb BK358.out hb); replace HB := aK (below_step (mvh HB.out) hb); (try clear hb); (try clear ho0); obtain ⟨Ao16,co16,eo16⟩ := Kd.R_slice HO368.out; subst eo16) | (go_at_call 31; (with_reducible refine (reedsol_code_mend.calls k _ t359 _ _ l1 _ _ t364 t365 t369 true _ ?side1 ?side2 ?side3 ?side4 ?side5 A10.out).mono ?_); (case side1 => exact (rs_OK_below HT361.out HB.out)); (case side2 => exact Kd.C_below HR1.out (mvh HB.out)); (case side3 => exact HC1.out); (case side4 => exact mvC (Kd.R_reads' HO368.out).2.2); (case side5 => exact (Kd.R_reads' HO368.out).2.1); rintro e w17 ⟨v371,rfl,ho0,hb⟩; replace HO368 := aK (Kd.R_below (mvR HO368.out) hb); have HO372 := aK (Kd.R_lower (Kd.R_newM (M := fun k_ => (w.heap.size ≤ k_)) ho0 (below_size (mvh HB.out)) (fun k_ h_ => h_)) (below_size (mvh HB.out))); replace BK358 := aK (kb BK358.out hb); replace HB := aK (below_step (mvh HB.out) hb); (try clear hb); (try clear ho0); obtain ⟨Ao18,co18,eo18⟩ := Kd.R_slice HO372.out; subst eo18) | go_quiet (first | (go_at_call 29; (with_reducible refine (reedsol_code_fits.calls k _ t359 _ _ l1 t363 _ ?side1 ?side2 ?side3 A6.out).mono ?_); (case side1 => exact HT361.out); (case side2 => exact mvC HR1.out); (case side3 => exact HC1.out); rintro e w' ⟨rfl,⟨nd,rfl⟩⟩; (try first | exact ⟨rfl,_,World.drewN_drewN _ _ _⟩ | exact ⟨rfl,_,Eq.trans (World.drewN_drewN _ _ _) (congrArg (World.drewN _) (Nat.add_assoc _ _ _))⟩))))
 go_loopg [7,53] k (fun kq v7 v53 w' => ∃ (x7_1 : Int) (x53_1 : Int),v7 = .int .i64 x7_1 ∧ v53 = .int .i64 x53_1 ∧ Aside0 (reedsol_Decode.l0 kq l1 x7_1 t369 (t369.length : Int) x53_1 a0_0 a0_1 a0_2 a0_3 = some (r1,r2,r3)) ∧ Aside0 (kq ≤ k) ∧ Aside0 (Kd.R (Kd.int .u8) 5 w' w.heap.size (fun k_ => (w.heap.size ≤ k_)) (.slice Ao18 t369.length co18) t369) ∧ Aside0 (w'.heap[gb358]? = some (.cells #[.int .i64 a0_0,.int .u64 a0_1,.int .i64 a0_2,.int .i64 a0_3] 26 (0,0))) ∧ Aside0 (Below w.heap.size w w'))
 case atStart => exact ⟨(0),(0),(by first | rfl | (simp; done) | (simp [*]; done) | (simp [wrap64]; done)),(by first | rfl | (simp; done) | (simp [*]; done) | (simp [wrap64]; done)),H',⟨Nat.le_refl _⟩,⟨by (with_reducible repeat (first | apply Kd.R_alloc | apply Kd.R_drewN | apply Kd.R_drew)); exact Kd.R_mono HO372.out (fun _ hk => hk.1)⟩,⟨mvb BK358.out⟩,⟨mvh HB.out⟩⟩
 case round =>
  clear H'
  (try clear c1); (try clear c2); (try clear p2); (try clear p3); (try clear c5); (try clear c5b0); (try clear c5b1); (try clear p6); (try clear c7); (try clear c7b0); (try clear c7b1); (try clear c9); (try clear c11); (try clear c13); (try clear hcz13_0); (try clear hcz13_1); (try clear hcz13_2)
  (try clear hcz13_3); (try clear hfz13_0); (try clear hfz13_1); (try clear hfz13_2); (try clear hfz13_3)
  obtain ⟨x7_1,x53_1,rfl,rfl,HA,HK1,HO_14,BK358,HB⟩ := hrel
  cases gk with
  | zero => exact absurd HA.out (by simp [reedsol_Decode.l0])
  | succ k1 =>
   have H := HA.out
   clear HA
   simp only [reedsol_Decode.l0] at H
   by_cases c19 : x53_1 < (t369.length : Int)
   rotate_left
   ·rw [if_neg c19] at H
    have c19b0 : decide (x53_1 < (t369.length : Int)) = false := decide_eq_false c19
    clear c19
    obtain ⟨ji24,hji24⟩ : ∃ j_ : Int,(wrap64 ((t369.length : Int) - a0_3)) = j_ := ⟨_,rfl⟩
    first | rw [hji24] at H | simp only [hji24] at H
    have hji24w : (IntKind.i64.wrap ((t369.length : Int) - a0_3)) = ji24 := (i64_w _).trans hji24
    by_cases c25 : 0 ≤ (ji24)
    rotate_left
    ·rw [if_neg c25] at H
     exact absurd H (by simp)
    rw [if_pos c25] at H
    have c25b0 := eq_true c25
    have c25b1 : decide (0 ≤ (ji24)) = true := decide_eq_true c25
    clear c25
    by_cases c26 : (ji24) ≤ (t369.length : Int)
    rotate_left
    ·rw [if_neg c26] at H
     exact absurd H (by simp)
    rw [if_pos c26] at H
    have c26b0 := eq_true c26
    have c26b1 : decide ((ji24) ≤ (t369.length : Int)) = true := decide_eq_true c26
    clear c26
    obtain ⟨y375,hy375⟩ : ∃ y_ : List Int,y_ = (t369.take ((ji24) : Int).toNat) := ⟨_,rfl⟩
    replace H : (some (y375,x7_1,0)) = some (r1,r2,r3) := by rw [hy375]; exact H
    have Ny375 := Aside0.mk hy375
    clear hy375
    simp only [Option.some.injEq,Prod.mk.injEq] at H
    obtain ⟨rfl,rfl,rfl⟩ := H
    obtain ⟨hcz27_0,hcz27_1,hcz27_2,hcz27_3,hfz27_0,hfz27_1,hfz27_2,hfz27_3⟩ := cf4 BK358.out
    have q28 : ((ji24) : Int) ≤ ((t369.length : Int) : Int) := oD
    obtain ⟨i028,hi028,_,hsz28,_⟩ := info_parts info5
    have hroom28 : t369.length ≤ co18 := (Kd.R_reads' HO_14.out).2.1
    have hC28 : Kd.F (Kd.int .u8) _ _ Ao18 t369.length t369 := (Kd.V_at (base := w.heap.size) (Kd.R_V (Kd.R_types (HO_14.out) BK358.out (by decide)))).2.2
    have hcut28 := cut_to3 (P := Try.prog) 27 5 .i64 Try.underlying27 hi028 Ao18 t369.length co18 (ji24) oD q28 hroom28
    have hr28 := Kd.F_take (m := ((ji24) : Int).toNat) hC28 (by omega)
    have hy28 : y375.length = ((ji24) : Int).toNat := (by rw [Ny375.out,List.length_take]; omega)
    rw [← Ny375.out] at hr28
    rw [← hy28] at hcut28
    have HO379 := aK (show Kd.V (Kd.int .u8) 5 _ w.heap.size _ (.slice Ao18 y375.length y375.length) y375 from Kd.V_mk (by omega) hr28)
    have HC379 := aK (show y375.length ≤ y375.length from by omega)
    clear hr28 hC28 hroom28 hi028 hsz28
    have KY28 := Aside0.mk hy28
    clear hy28
    replace q28 := eq_true q28
    go_wp2
    repeat (go_quiet (fail); try go_wp2)
    go_ret3
    exact ⟨_,by first | rfl | (simp [errW_none,errW_some] <;> rfl) | (simp only [← hji24]; first | rfl | (simp [errW_none,errW_some] <;> rfl)) | (simp [*,errW_none,errW_some] <;> rfl),Kd.V_lower (by (with_reducible repeat (first | apply Kd.V_alloc | apply Kd.V_drewN | apply Kd.V_drew)); exact Kd.V_mono HO379.out (fun _ hk => by first | exact hk.1 | exact Nat.le_trans HB00.out.size hk.1)) HB00.out.size,below_step HB00.out (mvh HB.out)⟩
   rw [if_pos c19] at H
   have c19b0 : decide (x53_1 < (t369.length : Int)) = true := decide_eq_true c19
   clear c19
   by_cases c20 : 0 ≤ x53_1
   rotate_left
   ·rw [if_neg c20] at H
    exact absurd H (by simp)
   rw [if_pos c20] at H
   have c20b0 : decide (0 ≤ x53_1) = true := decide_eq_true c20
   clear c20
   by_cases c21 : x53_1 < (t369.length : Int)
   rotate_left
   ·rw [if_neg c21] at H
    exact absurd H (by simp)
   rw [if_pos c21] at H
   have c21b0 : decide (x53_1 < (t369.length : Int)) = true := decide_eq_true c21
   clear c21
   by_cases c22 : x53_1 < (l1.length : Int)
   rotate_left
   ·rw [if_neg c22] at H
    exact absurd H (by simp)
   rw [if_pos c22] at H
   have c22b0 : decide (x53_1 < (l1.length : Int)) = true := decide_eq_true c22
   clear c22
   by_cases c23 : (rd t369 x53_1) = (rd l1 x53_1)
   rotate_left
   ·rw [if_neg c23] at H
    have c23b0 : ((rd t369 x53_1) == (rd l1 x53_1)) = false := beq_eq_false_iff_ne.mpr c23
    have c23b1 : ((rd t369 x53_1) != (rd l1 x53_1)) = true := bne_iff_ne.mpr c23
    have H' := Aside0.mk H
    clear H
    have p373 : 0 ≤ (x53_1 : Int) := oD
    have q373 : x53_1 < (t369.length : Int) := oD
    obtain ⟨ad373,e373,hx373_0⟩ := Kd.at_int (Kd.R_reads' HO_14.out).2.2 x53_1 p373 q373
    cases e373
    replace p373 := eq_true p373
    replace q373 := eq_true q373
    have p374 : 0 ≤ (x53_1 : Int) := oD
    have q374 : x53_1 < (l1.length : Int) := oD
    obtain ⟨ad374,e374,hx374_0⟩ := Kd.at_int HR1.out x53_1 p374 q374
    cases e374
    replace hx374_0 := (HB.out.cell (World.block_lt_of_cell? w _ hx374_0)).trans hx374_0
    replace p374 := eq_true p374
    replace q374 := eq_true q374
    go_wp2
    repeat (go_quiet (fail); try go_wp2)
    go_roundg k1
    case measure => have := HK1.out; omega
    case rel => exact ⟨(wrap64 (x7_1 + 1)),(wrap64 (x53_1 + 1)),(by first | rfl | (simp; done) | (simp [*]; done) | (simp [wrap64]; done)),(by first | rfl | (simp; done) | (simp [*]; done) | (simp [wrap64]; done)),H',⟨by have := HK1.out; omega⟩,⟨mvR HO_14.out⟩,⟨mvb BK358.out⟩,⟨mvh HB.out⟩⟩
   rw [if_pos c23] at H
   have c23b0 : ((rd t369 x53_1) == (rd l1 x53_1)) = true := beq_iff_eq.mpr c23
   have c23b1 : ((rd t369 x53_1) != (rd l1 x53_1)) = false := bne_eq_false_iff_eq.mpr c23
   clear c23
   have H' := Aside0.mk H
   clear H
   have p373 : 0 ≤ (x53_1 : Int) := oD
   have q373 : x53_1 < (t369.length : Int) := oD
   obtain ⟨ad373,e373,hx373_0⟩ := Kd.at_int (Kd.R_reads' HO_14.out).2.2 x53_1 p373 q373
   cases e373
   replace p373 := eq_true p373
   replace q373 := eq_true q373
   have p374 : 0 ≤ (x53_1 : Int) := oD
   have q374 : x53_1 < (l1.length : Int) := oD
   obtain ⟨ad374,e374,hx374_0⟩ := Kd.at_int HR1.out x53_1 p374 q374
   cases e374
   replace hx374_0 := (HB.out.cell (World.block_lt_of_cell? w _ hx374_0)).trans hx374_0
   replace p374 := eq_true p374
   replace q374 := eq_true q374
   go_wp2
   repeat (go_quiet (fail); try go_wp2)
   go_roundg k1
   case measure => have := HK1.out; omega
   case rel => exact ⟨(x7_1),(wrap64 (x53_1 + 1)),(by first | rfl | (simp; done) | (simp [*]; done) | (simp [wrap64]; done)),(by first | rfl | (simp; done) | (simp [*]; done) | (simp [wrap64]; done)),H',⟨by have := HK1.out; omega⟩,⟨mvR HO_14.out⟩,⟨mvb BK358.out⟩,⟨mvh HB.out⟩⟩
def l4_Plain.f  : Option (Int × Int × Int × Int) := some (3,11,1,2)
set_option maxHeartbeats 8000000 in
set_option maxRecDepth 100000 in
theorem l4_Plain.calls  (r1 : Int) (r2 : Int) (r3 : Int) (r4 : Int) (w : World) (h : l4_Plain.f  = some (r1,r2,r3,r4)) :
  Calls Try.prog 25 #[] w fun e w' => e = .returned (.agg #[.int .i64 r1,.int .u64 r2,.int .i64 r3,.int .i64 r4]) ∧ Below w.heap.size w w' := by
 have hu26 := Try.underlying26
 have hu24 := Try.underlying24
 have HB := aK (Below.refl w.heap.size w)
 have H : (some (3,11,1,2)) = some (r1,r2,r3,r4) := h
 clear h
 simp only [Option.some.injEq,Prod.mk.injEq] at H
 obtain ⟨rfl,rfl,rfl,rfl⟩ := H
 go_enter Try.func25,Try.ntmps25
 go_wp2_with (first | ((with_reducible refine gate_dst (N := 0) rfl ?_); refine box_event ?hg (N := 0) ?hd (cs := #[.int .i64 0,.int .u64 0,.int .i64 0,.int .i64 0]) (t := 26) ?hr ?_; (case hd => rfl); (case hg => rfl); (case hr => first | (go_simp; done) | (go_simp; rfl)); intro gb380 hg w1 hbox hb; have BK380 := aK (hbox); have GW380 := aK ((by rw [hg]; exact (below_size (mvh HB.out)) : w.heap.size ≤ gb380)); have GE380 := aK ((by rw [hg]; exact (below_size (mvh HB.out)) : w.heap.size ≤ gb380)); replace HB := aK (below_step (mvh HB.out) hb); clear hb hbox hg; obtain ⟨hcz2_0,hcz2_1,hcz2_2,hcz2_3,hfz2_0,hfz2_1,hfz2_2,hfz2_3⟩ := cf4 BK380.out))
 refine bodyPost_ret (results_cell_row rfl _ _ gb380 26 #[.int .i64 3,.int .u64 11,.int .i64 1,.int .i64 2] (0,0) _ rfl (by (with_reducible repeat (first | apply bN | apply bD | apply bA)); refine blk_put (cs := #[.int .i64 3,.int .u64 11,.int .i64 1,.int .i64 0]) ?_ 3 _ rfl; (with_reducible repeat (first | apply bN | apply bD | apply bA)); refine blk_put (cs := #[.int .i64 3,.int .u64 11,.int .i64 0,.int .i64 0]) ?_ 2 _ rfl; (with_reducible repeat (first | apply bN | apply bD | apply bA)); refine blk_put (cs := #[.int .i64 3,.int .u64 0,.int .i64 0,.int .i64 0]) ?_ 1 _ rfl; (with_reducible repeat (first | apply bN | apply bD | apply bA)); refine blk_put (cs := #[.int .i64 0,.int .u64 0,.int .i64 0,.int .i64 0]) ?_ 0 _ rfl; exact mvb BK380.out) Try.underlying26 rfl (by kernel_rfl)) rfl ?_
 exact ⟨by first | rfl | (simp [errW_none,errW_some] <;> rfl) | (simp [*,errW_none,errW_some] <;> rfl),by repeat (first | (with_reducible first | exact HB.out | apply hA | apply hN | apply hD | refine below_set ?_ GE380.out) | exact HB.out)⟩


end Go.Proofs.Ytpgecdidddoglaa.P

