-- printed by mk.sh
import Derived.Test.YtdhnjnkjhfomiaaRhQVstr
import Derived.Test.YtdhnjnkjhfomiaaRhPx0
import Derived.Test.YtdhnjnkjhfomiaaRhPx1
import Derived.Test.YtdhnjnkjhfomiaaRhPx3
import Derived.Test.YtdhnjnkjhfomiaaRhPx5
import Derived.Test.YtdhnjnkjhfomiaaRhPx6
import Derived.Test.YtdhnjnkjhfomiaaRhPx11
import Derived.Test.YtdhnjnkjhfomiaaRhPx12
import Derived.Test.YtdhnjnkjhfomiaaRhPx13
import Derived.Test.YtdhnjnkjhfomiaaRhPx14
import Derived.Test.YtdhnjnkjhfomiaaRhPx17
namespace Go.Proofs.Ytdhnjnkjhfomiaa.P
open Go.RowKit YtdhnjnkjhfomiaaW.PrintWords YtdhnjnkjhfomiaaW.PrintLast YtdhnjnkjhfomiaaW.PrintMore
attribute [local go_sem] max2_int min2_int max_two min_two max_three min_three max_four min_four   -- for this text's walks alone
set_option linter.unusedVariables false
set_option linter.unusedSimpArgs false

def reedsol_Decode.l0 : Nat → List Int → Int → List Int → Int → Int → Int → Int → Int → Int → Option (List Int × Int × Int)
 | 0,_,_,_,_,_,_,_,_,_ => none
 | k + 1,x1,x7,x14,x52,x53,x410000,x410001,x410002,x410003 => if x53 < x52 then (if 0 ≤ x53 then (if x53 < (x14.length : Int) then (if x53 < (x1.length : Int) then (if (rd x14 x53) = (rd x1 x53) then (reedsol_Decode.l0 k x1 x7 x14 x52 (wrap64 (x53 + 1)) x410000 x410001 x410002 x410003) else (reedsol_Decode.l0 k x1 (wrap64 (x7 + 1)) x14 x52 (wrap64 (x53 + 1)) x410000 x410001 x410002 x410003)) else (none)) else (none)) else (none)) else (if 0 ≤ (wrap64 ((x14.length : Int) - x410003)) then (if (wrap64 ((x14.length : Int) - x410003)) ≤ (x14.length : Int) then (some ((x14.take ((wrap64 ((x14.length : Int) - x410003)) : Int).toNat),x7,0)) else (none)) else (none))
def reedsol_Decode.f (k : Nat) (a0_0 : Int) (a0_1 : Int) (a0_2 : Int) (a0_3 : Int) (l1 : List Int) (l2 : List Int) : Option (List Int × Int × Int) := (reedsol_open.f k a0_0 a0_1 a0_2 a0_3).bind fun bt410 => (if bt410.2 = 0 then ((reedsol_code_fits.f k bt410.1 l1).bind fun t414 => (if t414 = 0 then ((reedsol_places.f k (l1.length : Int) l2).bind fun bt415 => (if bt415.2.2 = true then ((reedsol_code_mend.f k bt410.1 l1 bt415.1 bt415.2.1).bind fun bt420 => (if bt420.2 = true then (reedsol_Decode.l0 k l1 0 bt420.1 (bt420.1.length : Int) 0 a0_0 a0_1 a0_2 a0_3) else (some (([] : List Int),0,331)))) else (some (([] : List Int),0,3)))) else (some (([] : List Int),0,t414)))) else (some (([] : List Int),0,bt410.2)))
theorem reedsol_Decode.mono_l : ∀ k,(∀ y0 y1 y2 y3 y4 y5 y6 y7 y8,LeO (reedsol_Decode.l0 k y0 y1 y2 y3 y4 y5 y6 y7 y8) (reedsol_Decode.l0 (k + 1) y0 y1 y2 y3 y4 y5 y6 y7 y8))
 | 0 => fun _ _ _ _ _ _ _ _ _ r h => by simp [reedsol_Decode.l0] at h
 | k + 1 => by
  have ih0 := reedsol_Decode.mono_l k
  ·intro y0 y1 y2 y3 y4 y5 y6 y7 y8
   unfold reedsol_Decode.l0
   repeat' first
   | (with_reducible exact ih0 _ _ _ _ _ _ _ _ _)
   | (with_reducible exact reedsol_code_fits.mono _ _ _)
   | (with_reducible exact reedsol_code_mend.mono _ _ _ _ _)
   | (with_reducible exact reedsol_open.mono _ _ _ _ _)
   | (with_reducible exact reedsol_places.mono _ _ _)
   | (with_reducible exact LeO.refl _)
   | (with_reducible exact LeO.none _)
   | (with_reducible refine LeO.ite ?_ ?_)
   | (with_reducible refine LeO.bind ?_ (fun _ => ?_))
theorem reedsol_Decode.mono : ∀ a0 a1 a2 a3 a4 a5 k,LeO (reedsol_Decode.f k a0 a1 a2 a3 a4 a5) (reedsol_Decode.f (k + 1) a0 a1 a2 a3 a4 a5) := by
 intro a0 a1 a2 a3 a4 a5 k
 have ih0 := reedsol_Decode.mono_l k
 unfold reedsol_Decode.f
 repeat' first
   | (with_reducible exact ih0 _ _ _ _ _ _ _ _ _)
   | (with_reducible exact reedsol_code_fits.mono _ _ _)
   | (with_reducible exact reedsol_code_mend.mono _ _ _ _ _)
   | (with_reducible exact reedsol_open.mono _ _ _ _ _)
   | (with_reducible exact reedsol_places.mono _ _ _)
   | (with_reducible exact LeO.refl _)
   | (with_reducible exact LeO.none _)
   | (with_reducible refine LeO.ite ?_ ?_)
   | (with_reducible refine LeO.bind ?_ (fun _ => ?_))
set_option maxHeartbeats 8000000 in
set_option maxRecDepth 100000 in
theorem reedsol_Decode.calls (k : Nat) (a0_0 : Int) (a0_1 : Int) (a0_2 : Int) (a0_3 : Int) (A1 : Option Addr) (c1 : Nat) (l1 : List Int) (A2 : Option Addr) (c2 : Nat) (l2 : List Int) (r1 : List Int) (r2 : Int) (r3 : Int) (w : World) (hr1 : Kd.C (Kd.int .u8) w A1 l1.length l1) (hc1 : l1.length ≤ c1) (hr2 : Kd.C (Kd.int .i64) w A2 l2.length l2) (hc2 : l2.length ≤ c2) (h : reedsol_Decode.f k a0_0 a0_1 a0_2 a0_3 l1 l2 = some (r1,r2,r3)) :
  Calls Try.prog 25 #[.agg #[.int .i64 a0_0,.int .u64 a0_1,.int .i64 a0_2,.int .i64 a0_3],.slice A1 l1.length c1,.slice A2 l2.length c2] w fun e w' => ∃ v0_ : Value,e = .returned (.tuple #[v0_,.int .i64 r2,.int .i64 r3]) ∧ Kd.V (Kd.int .u8) 5 w' w.heap.size (fun k_ => (w.heap.size ≤ k_)) v0_ r1 ∧ Below w.heap.size w w' := by
 have hu26 := Try.underlying26
 have HR1 := Aside0.mk hr1
 have HC1 := Aside0.mk hc1
 clear hr1 hc1
 have HR2 := Aside0.mk hr2
 have HC2 := Aside0.mk hc2
 clear hr2 hc2
 have HB := aK (Below.refl w.heap.size w)
 have H : ((reedsol_open.f k a0_0 a0_1 a0_2 a0_3).bind fun bt410 => (if bt410.2 = 0 then ((reedsol_code_fits.f k bt410.1 l1).bind fun t414 => (if t414 = 0 then ((reedsol_places.f k (l1.length : Int) l2).bind fun bt415 => (if bt415.2.2 = true then ((reedsol_code_mend.f k bt410.1 l1 bt415.1 bt415.2.1).bind fun bt420 => (if bt420.2 = true then (reedsol_Decode.l0 k l1 0 bt420.1 (bt420.1.length : Int) 0 a0_0 a0_1 a0_2 a0_3) else (some (([] : List Int),0,331)))) else (some (([] : List Int),0,3)))) else (some (([] : List Int),0,t414)))) else (some (([] : List Int),0,bt410.2)))) = some (r1,r2,r3) := h
 clear h
 replace H := Option.bind_eq_some_iff.mp H
 obtain ⟨⟨t410,t413⟩,A40,H⟩ := H
 try dsimp only at H
 have A4 := Aside0.mk A40
 clear A40
 by_cases c5 : t413 = 0
 rotate_left
 ·rw [if_neg c5] at H
  have c5b0 : (t413 == 0) = false := beq_eq_false_iff_ne.mpr c5
  have c5b1 : (t413 != 0) = true := bne_iff_ne.mpr c5
  simp only [Option.some.injEq,Prod.mk.injEq] at H
  obtain ⟨rfl,rfl,rfl⟩ := H
  go_enter Try.func25,Try.ntmps25
  go_wp2_with (first | ((with_reducible refine gate_dst (N := 3) rfl ?_); refine box_event ?hg (N := 3) ?hd (cs := #[.int .i64 a0_0,.int .u64 a0_1,.int .i64 a0_2,.int .i64 a0_3]) (t := 26) ?hr ?_; (case hd => rfl); (case hg => rfl); (case hr => first | (go_simp; done) | (go_simp; rfl)); intro gb409 hg w42 hbox hb; have n0_ := aK (below_step (mvh HB.out) hb); have n1_ := aK (hbox); have n2_ := aK ((by rw [hg]; exact (below_size (mvh HB.out)) : w.heap.size ≤ gb409)); have n3_ := aK ((by rw [hg]; exact (below_size (mvh HB.out)) : w.heap.size ≤ gb409)); clear HB; have HB := n0_; have BK409 := n1_; have GW409 := n2_; have GE409 := n3_; clear n0_ n1_ n2_ n3_; clear hb hbox hg; obtain ⟨hcz43_0,hcz43_1,hcz43_2,hcz43_3,hfz43_0,hfz43_1,hfz43_2,hfz43_3⟩ := cf4 BK409.out) | (go_at_call 27; (with_reducible refine (reedsol_open.calls k a0_0 a0_1 a0_2 a0_3 t410 t413 _ A4.out).mono ?_); rintro e w ⟨Ap411,rfl,hT_,hb⟩; have n0_ := aK (kb BK409.out hb); have n1_ := aK (Kd.C_below HR1.out (below_step (mvh HB.out) hb)); have n2_ := aK (Kd.C_below HR2.out (below_step (mvh HB.out) hb)); have n3_ := aK (Below.refl w.heap.size w); have n4_ := aK (below_step (mvh HB.out) hb); clear BK409 HR1 HR2 HB; have BK409 := n0_; have HR1 := n1_; have HR2 := n2_; have HB := n3_; have HB00 := n4_; clear n0_ n1_ n2_ n3_ n4_; have HT412 := Aside0.mk hT_; clear hb hT_))
  repeat (go_quiet (first | ((with_reducible refine gate_dst (N := 3) rfl ?_); refine box_event ?hg (N := 3) ?hd (cs := #[.int .i64 a0_0,.int .u64 a0_1,.int .i64 a0_2,.int .i64 a0_3]) (t := 26) ?hr ?_; (case hd => rfl); (case hg => rfl); (case hr => first | (go_simp; done) | (go_simp; rfl)); intro gb409 hg w42 hbox hb; have n0_ := aK (below_step (mvh HB.out) hb); have n1_ := aK (hbox); have n2_ := aK ((by rw [hg]; exact (below_size (mvh HB.out)) : w.heap.size ≤ gb409)); have n3_ := aK ((by rw [hg]; exact (below_size (mvh HB.out)) : w.heap.size ≤ gb409)); clear HB; have HB := n0_; have BK409 := n1_; have GW409 := n2_; have GE409 := n3_; clear n0_ n1_ n2_ n3_; clear hb hbox hg; obtain ⟨hcz43_0,hcz43_1,hcz43_2,hcz43_3,hfz43_0,hfz43_1,hfz43_2,hfz43_3⟩ := cf4 BK409.out) | (go_at_call 27; (with_reducible refine (reedsol_open.calls k a0_0 a0_1 a0_2 a0_3 t410 t413 _ A4.out).mono ?_); rintro e w ⟨Ap411,rfl,hT_,hb⟩; have n0_ := aK (kb BK409.out hb); have n1_ := aK (Kd.C_below HR1.out (below_step (mvh HB.out) hb)); have n2_ := aK (Kd.C_below HR2.out (below_step (mvh HB.out) hb)); have n3_ := aK (Below.refl w.heap.size w); have n4_ := aK (below_step (mvh HB.out) hb); clear BK409 HR1 HR2 HB; have BK409 := n0_; have HR1 := n1_; have HR2 := n2_; have HB := n3_; have HB00 := n4_; clear n0_ n1_ n2_ n3_ n4_; have HT412 := Aside0.mk hT_; clear hb hT_)); try go_wp2_with (first | ((with_reducible refine gate_dst (N := 3) rfl ?_); refine box_event ?hg (N := 3) ?hd (cs := #[.int .i64 a0_0,.int .u64 a0_1,.int .i64 a0_2,.int .i64 a0_3]) (t := 26) ?hr ?_; (case hd => rfl); (case hg => rfl); (case hr => first | (go_simp; done) | (go_simp; rfl)); intro gb409 hg w42 hbox hb; have n0_ := aK (below_step (mvh HB.out) hb); have n1_ := aK (hbox); have n2_ := aK ((by rw [hg]; exact (below_size (mvh HB.out)) : w.heap.size ≤ gb409)); have n3_ := aK ((by rw [hg]; exact (below_size (mvh HB.out)) : w.heap.size ≤ gb409)); clear HB; have HB := n0_; have BK409 := n1_; have GW409 := n2_; have GE409 := n3_; clear n0_ n1_ n2_ n3_; clear hb hbox hg; obtain ⟨hcz43_0,hcz43_1,hcz43_2,hcz43_3,hfz43_0,hfz43_1,hfz43_2,hfz43_3⟩ := cf4 BK409.out) | (go_at_call 27; (with_reducible refine (reedsol_open.calls k a0_0 a0_1 a0_2 a0_3 t410 t413 _ A4.out).mono ?_); rintro e w ⟨Ap411,rfl,hT_,hb⟩; have n0_ := aK (kb BK409.out hb); have n1_ := aK (Kd.C_below HR1.out (below_step (mvh HB.out) hb)); have n2_ := aK (Kd.C_below HR2.out (below_step (mvh HB.out) hb)); have n3_ := aK (Below.refl w.heap.size w); have n4_ := aK (below_step (mvh HB.out) hb); clear BK409 HR1 HR2 HB; have BK409 := n0_; have HR1 := n1_; have HR2 := n2_; have HB := n3_; have HB00 := n4_; clear n0_ n1_ n2_ n3_ n4_; have HT412 := Aside0.mk hT_; clear hb hT_)))
  go_ret3
  exact ⟨_,by first | rfl | (simp [errW_none,errW_some] <;> rfl) | (simp [*,errW_none,errW_some] <;> rfl),Kd.V_lower (Kd.R_V (base := 0) (by first | exact Kd.R_nil _ _ _ _ _ | exact Kd.N_nil _ _ _ _ _ | exact Kd.V_nil _ _ _ _ _ | exact Kd.Q_nil _ _ _ _ _ | exact Kd.S_nil _ _ _ _ _)) HB00.out.size,below_step HB00.out (mvh HB.out)⟩

 rw [if_pos c5] at H
 have c5b0 : (t413 == 0) = true := beq_iff_eq.mpr c5
 have c5b1 : (t413 != 0) = false := bne_eq_false_iff_eq.mpr c5
 clear c5
 replace H := Option.bind_eq_some_iff.mp H
 obtain ⟨t414,A60,H⟩ := H
 try dsimp only at H
 have A6 := Aside0.mk A60
 clear A60
 by_cases c7 : t414 = 0
 rotate_left
 ·rw [if_neg c7] at H
  have c7b0 : (t414 == 0) = false := beq_eq_false_iff_ne.mpr c7
  have c7b1 : (t414 != 0) = true := bne_iff_ne.mpr c7
  simp only [Option.some.injEq,Prod.mk.injEq] at H
  obtain ⟨rfl,rfl,rfl⟩ := H
  go_enter Try.func25,Try.ntmps25
  go_wp2_with (first | ((with_reducible refine gate_dst (N := 3) rfl ?_); refine box_event ?hg (N := 3) ?hd (cs := #[.int .i64 a0_0,.int .u64 a0_1,.int .i64 a0_2,.int .i64 a0_3]) (t := 26) ?hr ?_; (case hd => rfl); (case hg => rfl); (case hr => first | (go_simp; done) | (go_simp; rfl)); intro gb409 hg w39 hbox hb; have n0_ := aK (below_step (mvh HB.out) hb); have n1_ := aK (hbox); have n2_ := aK ((by rw [hg]; exact (below_size (mvh HB.out)) : w.heap.size ≤ gb409)); have n3_ := aK ((by rw [hg]; exact (below_size (mvh HB.out)) : w.heap.size ≤ gb409)); clear HB; have HB := n0_; have BK409 := n1_; have GW409 := n2_; have GE409 := n3_; clear n0_ n1_ n2_ n3_; clear hb hbox hg; obtain ⟨hcz40_0,hcz40_1,hcz40_2,hcz40_3,hfz40_0,hfz40_1,hfz40_2,hfz40_3⟩ := cf4 BK409.out) | (go_at_call 27; (with_reducible refine (reedsol_open.calls k a0_0 a0_1 a0_2 a0_3 t410 t413 _ A4.out).mono ?_); rintro e w ⟨Ap411,rfl,hT_,hb⟩; have n0_ := aK (kb BK409.out hb); have n1_ := aK (Kd.C_below HR1.out (below_step (mvh HB.out) hb)); have n2_ := aK (Kd.C_below HR2.out (below_step (mvh HB.out) hb)); have n3_ := aK (Below.refl w.heap.size w); have n4_ := aK (below_step (mvh HB.out) hb); clear BK409 HR1 HR2 HB; have BK409 := n0_; have HR1 := n1_; have HR2 := n2_; have HB := n3_; have HB00 := n4_; clear n0_ n1_ n2_ n3_ n4_; have HT412 := Aside0.mk hT_; clear hb hT_) | (go_at_call 28; (with_reducible refine (reedsol_code_fits.calls k _ t410 _ _ l1 t414 _ ?side1 ?side2 ?side3 A6.out).mono ?_); (case side1 => exact HT412.out); (case side2 => exact mvC HR1.out); (case side3 => exact HC1.out); rintro e w' ⟨rfl,⟨nd,rfl⟩⟩; (try first | exact ⟨rfl,_,World.drewN_drewN _ _ _⟩ | exact ⟨rfl,_,Eq.trans (World.drewN_drewN _ _ _) (congrArg (World.drewN _) (Nat.add_assoc _ _ _))⟩)))
  repeat (go_quiet (first | ((with_reducible refine gate_dst (N := 3) rfl ?_); refine box_event ?hg (N := 3) ?hd (cs := #[.int .i64 a0_0,.int .u64 a0_1,.int .i64 a0_2,.int .i64 a0_3]) (t := 26) ?hr ?_; (case hd => rfl); (case hg => rfl); (case hr => first | (go_simp; done) | (go_simp; rfl)); intro gb409 hg w39 hbox hb; have n0_ := aK (below_step (mvh HB.out) hb); have n1_ := aK (hbox); have n2_ := aK ((by rw [hg]; exact (below_size (mvh HB.out)) : w.heap.size ≤ gb409)); have n3_ := aK ((by rw [hg]; exact (below_size (mvh HB.out)) : w.heap.size ≤ gb409)); clear HB; have HB := n0_; have BK409 := n1_; have GW409 := n2_; have GE409 := n3_; clear n0_ n1_ n2_ n3_; clear hb hbox hg; obtain ⟨hcz40_0,hcz40_1,hcz40_2,hcz40_3,hfz40_0,hfz40_1,hfz40_2,hfz40_3⟩ := cf4 BK409.out) | (go_at_call 27; (with_reducible refine (reedsol_open.calls k a0_0 a0_1 a0_2 a0_3 t410 t413 _ A4.out).mono ?_); rintro e w ⟨Ap411,rfl,hT_,hb⟩; have n0_ := aK (kb BK409.out hb); have n1_ := aK (Kd.C_below HR1.out (below_step (mvh HB.out) hb)); have n2_ := aK (Kd.C_below HR2.out (below_step (mvh HB.out) hb)); have n3_ := aK (Below.refl w.heap.size w); have n4_ := aK (below_step (mvh HB.out) hb); clear BK409 HR1 HR2 HB; have BK409 := n0_; have HR1 := n1_; have HR2 := n2_; have HB := n3_; have HB00 := n4_; clear n0_ n1_ n2_ n3_ n4_; have HT412 := Aside0.mk hT_; clear hb hT_) | (go_at_call 28; (with_reducible refine (reedsol_code_fits.calls k _ t410 _ _ l1 t414 _ ?side1 ?side2 ?side3 A6.out).mono ?_); (case side1 => exact HT412.out); (case side2 => exact mvC HR1.out); (case side3 => exact HC1.out); rintro e w' ⟨rfl,⟨nd,rfl⟩⟩; (try first | exact ⟨rfl,_,World.drewN_drewN _ _ _⟩ | exact ⟨rfl,_,Eq.trans (World.drewN_drewN _ _ _) (congrArg (World.drewN _) (Nat.add_assoc _ _ _))⟩))); try go_wp2_with (first | ((with_reducible refine gate_dst (N := 3) rfl ?_); refine box_event ?hg (N := 3) ?hd (cs := #[.int .i64 a0_0,.int .u64 a0_1,.int .i64 a0_2,.int .i64 a0_3]) (t := 26) ?hr ?_; (case hd => rfl); (case hg => rfl); (case hr => first | (go_simp; done) | (go_simp; rfl)); intro gb409 hg w39 hbox hb; have n0_ := aK (below_step (mvh HB.out) hb); have n1_ := aK (hbox); have n2_ := aK ((by rw [hg]; exact (below_size (mvh HB.out)) : w.heap.size ≤ gb409)); have n3_ := aK ((by rw [hg]; exact (below_size (mvh HB.out)) : w.heap.size ≤ gb409)); clear HB; have HB := n0_; have BK409 := n1_; have GW409 := n2_; have GE409 := n3_; clear n0_ n1_ n2_ n3_; clear hb hbox hg; obtain ⟨hcz40_0,hcz40_1,hcz40_2,hcz40_3,hfz40_0,hfz40_1,hfz40_2,hfz40_3⟩ := cf4 BK409.out) | (go_at_call 27; (with_reducible refine (reedsol_open.calls k a0_0 a0_1 a0_2 a0_3 t410 t413 _ A4.out).mono ?_); rintro e w ⟨Ap411,rfl,hT_,hb⟩; have n0_ := aK (kb BK409.out hb); have n1_ := aK (Kd.C_below HR1.out (below_step (mvh HB.out) hb)); have n2_ := aK (Kd.C_below HR2.out (below_step (mvh HB.out) hb)); have n3_ := aK (Below.refl w.heap.size w); have n4_ := aK (below_step (mvh HB.out) hb); clear BK409 HR1 HR2 HB; have BK409 := n0_; have HR1 := n1_; have HR2 := n2_; have HB := n3_; have HB00 := n4_; clear n0_ n1_ n2_ n3_ n4_; have HT412 := Aside0.mk hT_; clear hb hT_) | (go_at_call 28; (with_reducible refine (reedsol_code_fits.calls k _ t410 _ _ l1 t414 _ ?side1 ?side2 ?side3 A6.out).mono ?_); (case side1 => exact HT412.out); (case side2 => exact mvC HR1.out); (case side3 => exact HC1.out); rintro e w' ⟨rfl,⟨nd,rfl⟩⟩; (try first | exact ⟨rfl,_,World.drewN_drewN _ _ _⟩ | exact ⟨rfl,_,Eq.trans (World.drewN_drewN _ _ _) (congrArg (World.drewN _) (Nat.add_assoc _ _ _))⟩))))
  go_ret3
  exact ⟨_,by first | rfl | (simp [errW_none,errW_some] <;> rfl) | (simp [*,errW_none,errW_some] <;> rfl),Kd.V_lower (Kd.R_V (base := 0) (by first | exact Kd.R_nil _ _ _ _ _ | exact Kd.N_nil _ _ _ _ _ | exact Kd.V_nil _ _ _ _ _ | exact Kd.Q_nil _ _ _ _ _ | exact Kd.S_nil _ _ _ _ _)) HB00.out.size,below_step HB00.out (mvh HB.out)⟩
 rw [if_pos c7] at H
 have c7b0 : (t414 == 0) = true := beq_iff_eq.mpr c7
 have c7b1 : (t414 != 0) = false := bne_eq_false_iff_eq.mpr c7
 clear c7
 replace H := Option.bind_eq_some_iff.mp H
 obtain ⟨⟨t415,t416,t417⟩,A80,H⟩ := H
 try dsimp only at H
 have A8 := Aside0.mk A80
 clear A80
 by_cases c9 : t417 = true
 rotate_left
 ·replace c9 := Bool.eq_false_iff.mpr c9
  subst c9
  have H1 : (some (([] : List Int),0,3)) = some (r1,r2,r3) := by rw [if_neg (show ¬ (false = true) by decide)] at H; exact H
  clear H
  have H := H1
  clear H1
  simp only [Option.some.injEq,Prod.mk.injEq] at H
  obtain ⟨rfl,rfl,rfl⟩ := H
  go_enter Try.func25,Try.ntmps25
  go_wp2_with (first | ((with_reducible refine gate_dst (N := 3) rfl ?_); refine box_event ?hg (N := 3) ?hd (cs := #[.int .i64 a0_0,.int .u64 a0_1,.int .i64 a0_2,.int .i64 a0_3]) (t := 26) ?hr ?_; (case hd => rfl); (case hg => rfl); (case hr => first | (go_simp; done) | (go_simp; rfl)); intro gb409 hg w35 hbox hb; have n0_ := aK (below_step (mvh HB.out) hb); have n1_ := aK (hbox); have n2_ := aK ((by rw [hg]; exact (below_size (mvh HB.out)) : w.heap.size ≤ gb409)); have n3_ := aK ((by rw [hg]; exact (below_size (mvh HB.out)) : w.heap.size ≤ gb409)); clear HB; have HB := n0_; have BK409 := n1_; have GW409 := n2_; have GE409 := n3_; clear n0_ n1_ n2_ n3_; clear hb hbox hg; obtain ⟨hcz36_0,hcz36_1,hcz36_2,hcz36_3,hfz36_0,hfz36_1,hfz36_2,hfz36_3⟩ := cf4 BK409.out) | (go_at_call 27; (with_reducible refine (reedsol_open.calls k a0_0 a0_1 a0_2 a0_3 t410 t413 _ A4.out).mono ?_); rintro e w ⟨Ap411,rfl,hT_,hb⟩; have n0_ := aK (kb BK409.out hb); have n1_ := aK (Kd.C_below HR1.out (below_step (mvh HB.out) hb)); have n2_ := aK (Kd.C_below HR2.out (below_step (mvh HB.out) hb)); have n3_ := aK (Below.refl w.heap.size w); have n4_ := aK (below_step (mvh HB.out) hb); clear BK409 HR1 HR2 HB; have BK409 := n0_; have HR1 := n1_; have HR2 := n2_; have HB := n3_; have HB00 := n4_; clear n0_ n1_ n2_ n3_ n4_; have HT412 := Aside0.mk hT_; clear hb hT_) | (go_at_call 28; (with_reducible refine (reedsol_code_fits.calls k _ t410 _ _ l1 t414 _ ?side1 ?side2 ?side3 A6.out).mono ?_); (case side1 => exact HT412.out); (case side2 => exact mvC HR1.out); (case side3 => exact HC1.out); rintro e w' ⟨rfl,⟨nd,rfl⟩⟩; (try first | exact ⟨rfl,_,World.drewN_drewN _ _ _⟩ | exact ⟨rfl,_,Eq.trans (World.drewN_drewN _ _ _) (congrArg (World.drewN _) (Nat.add_assoc _ _ _))⟩)) | (go_at_call 43; (with_reducible refine (reedsol_places.calls k (l1.length : Int) _ _ l2 t415 t416 false _ ?side1 ?side2 A8.out).mono ?_); (case side1 => exact mvC HR2.out); (case side2 => exact HC2.out); rintro e w38 ⟨v418,rfl,ho0,hb⟩; have n0_ := aK (Kd.R_lower (Kd.R_newM (M := fun k_ => (w.heap.size ≤ k_)) ho0 (below_size (mvh HB.out)) (fun k_ h_ => h_)) (below_size (mvh HB.out))); have n1_ := aK (kb BK409.out hb); have n2_ := aK (below_step (mvh HB.out) hb); clear BK409 HB; have HO419 := n0_; have BK409 := n1_; have HB := n2_; clear n0_ n1_ n2_; (try clear hb); (try clear ho0)))
  repeat (go_quiet (first | ((with_reducible refine gate_dst (N := 3) rfl ?_); refine box_event ?hg (N := 3) ?hd (cs := #[.int .i64 a0_0,.int .u64 a0_1,.int .i64 a0_2,.int .i64 a0_3]) (t := 26) ?hr ?_; (case hd => rfl); (case hg => rfl); (case hr => first | (go_simp; done) | (go_simp; rfl)); intro gb409 hg w35 hbox hb; have n0_ := aK (below_step (mvh HB.out) hb); have n1_ := aK (hbox); have n2_ := aK ((by rw [hg]; exact (below_size (mvh HB.out)) : w.heap.size ≤ gb409)); have n3_ := aK ((by rw [hg]; exact (below_size (mvh HB.out)) : w.heap.size ≤ gb409)); clear HB; have HB := n0_; have BK409 := n1_; have GW409 := n2_; have GE409 := n3_; clear n0_ n1_ n2_ n3_; clear hb hbox hg; obtain ⟨hcz36_0,hcz36_1,hcz36_2,hcz36_3,hfz36_0,hfz36_1,hfz36_2,hfz36_3⟩ := cf4 BK409.out) | (go_at_call 27; (with_reducible refine (reedsol_open.calls k a0_0 a0_1 a0_2 a0_3 t410 t413 _ A4.out).mono ?_); rintro e w ⟨Ap411,rfl,hT_,hb⟩; have n0_ := aK (kb BK409.out hb); have n1_ := aK (Kd.C_below HR1.out (below_step (mvh HB.out) hb)); have n2_ := aK (Kd.C_below HR2.out (below_step (mvh HB.out) hb)); have n3_ := aK (Below.refl w.heap.size w); have n4_ := aK (below_step (mvh HB.out) hb); clear BK409 HR1 HR2 HB; have BK409 := n0_; have HR1 := n1_; have HR2 := n2_; have HB := n3_; have HB00 := n4_; clear n0_ n1_ n2_ n3_ n4_; have HT412 := Aside0.mk hT_; clear hb hT_) | (go_at_call 28; (with_reducible refine (reedsol_code_fits.calls k _ t410 _ _ l1 t414 _ ?side1 ?side2 ?side3 A6.out).mono ?_); (case side1 => exact HT412.out); (case side2 => exact mvC HR1.out); (case side3 => exact HC1.out); rintro e w' ⟨rfl,⟨nd,rfl⟩⟩; (try first | exact ⟨rfl,_,World.drewN_drewN _ _ _⟩ | exact ⟨rfl,_,Eq.trans (World.drewN_drewN _ _ _) (congrArg (World.drewN _) (Nat.add_assoc _ _ _))⟩)) | (go_at_call 43; (with_reducible refine (reedsol_places.calls k (l1.length : Int) _ _ l2 t415 t416 false _ ?side1 ?side2 A8.out).mono ?_); (case side1 => exact mvC HR2.out); (case side2 => exact HC2.out); rintro e w38 ⟨v418,rfl,ho0,hb⟩; have n0_ := aK (Kd.R_lower (Kd.R_newM (M := fun k_ => (w.heap.size ≤ k_)) ho0 (below_size (mvh HB.out)) (fun k_ h_ => h_)) (below_size (mvh HB.out))); have n1_ := aK (kb BK409.out hb); have n2_ := aK (below_step (mvh HB.out) hb); clear BK409 HB; have HO419 := n0_; have BK409 := n1_; have HB := n2_; clear n0_ n1_ n2_; (try clear hb); (try clear ho0))); try go_wp2_with (first | ((with_reducible refine gate_dst (N := 3) rfl ?_); refine box_event ?hg (N := 3) ?hd (cs := #[.int .i64 a0_0,.int .u64 a0_1,.int .i64 a0_2,.int .i64 a0_3]) (t := 26) ?hr ?_; (case hd => rfl); (case hg => rfl); (case hr => first | (go_simp; done) | (go_simp; rfl)); intro gb409 hg w35 hbox hb; have n0_ := aK (below_step (mvh HB.out) hb); have n1_ := aK (hbox); have n2_ := aK ((by rw [hg]; exact (below_size (mvh HB.out)) : w.heap.size ≤ gb409)); have n3_ := aK ((by rw [hg]; exact (below_size (mvh HB.out)) : w.heap.size ≤ gb409)); clear HB; have HB := n0_; have BK409 := n1_; have GW409 := n2_; have GE409 := n3_; clear n0_ n1_ n2_ n3_; clear hb hbox hg; obtain ⟨hcz36_0,hcz36_1,hcz36_2,hcz36_3,hfz36_0,hfz36_1,hfz36_2,hfz36_3⟩ := cf4 BK409.out) | (go_at_call 27; (with_reducible refine (reedsol_open.calls k a0_0 a0_1 a0_2 a0_3 t410 t413 _ A4.out).mono ?_); rintro e w ⟨Ap411,rfl,hT_,hb⟩; have n0_ := aK (kb BK409.out hb); have n1_ := aK (Kd.C_below HR1.out (below_step (mvh HB.out) hb)); have n2_ := aK (Kd.C_below HR2.out (below_step (mvh HB.out) hb)); have n3_ := aK (Below.refl w.heap.size w); have n4_ := aK (below_step (mvh HB.out) hb); clear BK409 HR1 HR2 HB; have BK409 := n0_; have HR1 := n1_; have HR2 := n2_; have HB := n3_; have HB00 := n4_; clear n0_ n1_ n2_ n3_ n4_; have HT412 := Aside0.mk hT_; clear hb hT_) | (go_at_call 28; (with_reducible refine (reedsol_code_fits.calls k _ t410 _ _ l1 t414 _ ?side1 ?side2 ?side3 A6.out).mono ?_); (case side1 => exact HT412.out); (case side2 => exact mvC HR1.out); (case side3 => exact HC1.out); rintro e w' ⟨rfl,⟨nd,rfl⟩⟩; (try first | exact ⟨rfl,_,World.drewN_drewN _ _ _⟩ | exact ⟨rfl,_,Eq.trans (World.drewN_drewN _ _ _) (congrArg (World.drewN _) (Nat.add_assoc _ _ _))⟩)) | (go_at_call 43; (with_reducible refine (reedsol_places.calls k (l1.length : Int) _ _ l2 t415 t416 false _ ?side1 ?side2 A8.out).mono ?_); (case side1 => exact mvC HR2.out); (case side2 => exact HC2.out); rintro e w38 ⟨v418,rfl,ho0,hb⟩; have n0_ := aK (Kd.R_lower (Kd.R_newM (M := fun k_ => (w.heap.size ≤ k_)) ho0 (below_size (mvh HB.out)) (fun k_ h_ => h_)) (below_size (mvh HB.out))); have n1_ := aK (kb BK409.out hb); have n2_ := aK (below_step (mvh HB.out) hb); clear BK409 HB; have HO419 := n0_; have BK409 := n1_; have HB := n2_; clear n0_ n1_ n2_; (try clear hb); (try clear ho0))))
  go_ret3
  exact ⟨_,by first | rfl | (simp [errW_none,errW_some] <;> rfl) | (simp [*,errW_none,errW_some] <;> rfl),Kd.V_lower (Kd.R_V (base := 0) (by first | exact Kd.R_nil _ _ _ _ _ | exact Kd.N_nil _ _ _ _ _ | exact Kd.V_nil _ _ _ _ _ | exact Kd.Q_nil _ _ _ _ _ | exact Kd.S_nil _ _ _ _ _)) HB00.out.size,below_step HB00.out (mvh HB.out)⟩
 subst c9
 have H1 : ((reedsol_code_mend.f k t410 l1 t415 t416).bind fun bt420 => (if bt420.2 = true then (reedsol_Decode.l0 k l1 0 bt420.1 (bt420.1.length : Int) 0 a0_0 a0_1 a0_2 a0_3) else (some (([] : List Int),0,331)))) = some (r1,r2,r3) := by rw [if_pos rfl] at H; exact H
 clear H
 have H := H1
 clear H1
 replace H := Option.bind_eq_some_iff.mp H
 obtain ⟨⟨t420,t421⟩,A100,H⟩ := H
 try dsimp only at H
 have A10 := Aside0.mk A100
 clear A100
 by_cases c11 : t421 = true
 rotate_left
 ·replace c11 := Bool.eq_false_iff.mpr c11
  subst c11
  have H1 : (some (([] : List Int),0,331)) = some (r1,r2,r3) := by rw [if_neg (show ¬ (false = true) by decide)] at H; exact H
  clear H
  have H := H1
  clear H1
  simp only [Option.some.injEq,Prod.mk.injEq] at H
  obtain ⟨rfl,rfl,rfl⟩ := H
  go_enter Try.func25,Try.ntmps25
  go_wp2_with (first | ((with_reducible refine gate_dst (N := 3) rfl ?_); refine box_event ?hg (N := 3) ?hd (cs := #[.int .i64 a0_0,.int .u64 a0_1,.int .i64 a0_2,.int .i64 a0_3]) (t := 26) ?hr ?_; (case hd => rfl); (case hg => rfl); (case hr => first | (go_simp; done) | (go_simp; rfl)); intro gb409 hg w29 hbox hb; have n0_ := aK (below_step (mvh HB.out) hb); have n1_ := aK (hbox); have n2_ := aK ((by rw [hg]; exact (below_size (mvh HB.out)) : w.heap.size ≤ gb409)); have n3_ := aK ((by rw [hg]; exact (below_size (mvh HB.out)) : w.heap.size ≤ gb409)); clear HB; have HB := n0_; have BK409 := n1_; have GW409 := n2_; have GE409 := n3_; clear n0_ n1_ n2_ n3_; clear hb hbox hg; obtain ⟨hcz30_0,hcz30_1,hcz30_2,hcz30_3,hfz30_0,hfz30_1,hfz30_2,hfz30_3⟩ := cf4 BK409.out) | (go_at_call 27; (with_reducible refine (reedsol_open.calls k a0_0 a0_1 a0_2 a0_3 t410 t413 _ A4.out).mono ?_); rintro e w ⟨Ap411,rfl,hT_,hb⟩; have n0_ := aK (kb BK409.out hb); have n1_ := aK (Kd.C_below HR1.out (below_step (mvh HB.out) hb)); have n2_ := aK (Kd.C_below HR2.out (below_step (mvh HB.out) hb)); have n3_ := aK (Below.refl w.heap.size w); have n4_ := aK (below_step (mvh HB.out) hb); clear BK409 HR1 HR2 HB; have BK409 := n0_; have HR1 := n1_; have HR2 := n2_; have HB := n3_; have HB00 := n4_; clear n0_ n1_ n2_ n3_ n4_; have HT412 := Aside0.mk hT_; clear hb hT_) | (go_at_call 28; (with_reducible refine (reedsol_code_fits.calls k _ t410 _ _ l1 t414 _ ?side1 ?side2 ?side3 A6.out).mono ?_); (case side1 => exact HT412.out); (case side2 => exact mvC HR1.out); (case side3 => exact HC1.out); rintro e w' ⟨rfl,⟨nd,rfl⟩⟩; (try first | exact ⟨rfl,_,World.drewN_drewN _ _ _⟩ | exact ⟨rfl,_,Eq.trans (World.drewN_drewN _ _ _) (congrArg (World.drewN _) (Nat.add_assoc _ _ _))⟩)) | (go_at_call 43; (with_reducible refine (reedsol_places.calls k (l1.length : Int) _ _ l2 t415 t416 true _ ?side1 ?side2 A8.out).mono ?_); (case side1 => exact mvC HR2.out); (case side2 => exact HC2.out); rintro e w32 ⟨v418,rfl,ho0,hb⟩; have n0_ := aK (Kd.R_lower (Kd.R_newM (M := fun k_ => (w.heap.size ≤ k_)) ho0 (below_size (mvh HB.out)) (fun k_ h_ => h_)) (below_size (mvh HB.out))); have n1_ := aK (kb BK409.out hb); have n2_ := aK (below_step (mvh HB.out) hb); clear BK409 HB; have HO419 := n0_; have BK409 := n1_; have HB := n2_; clear n0_ n1_ n2_; (try clear hb); (try clear ho0); obtain ⟨Ao33,co33,eo33⟩ := Kd.R_slice HO419.out; subst eo33) | (go_at_call 44; (with_reducible refine (reedsol_code_mend.calls k _ t410 _ _ l1 _ _ t415 t416 t420 false _ ?side1 ?side2 ?side3 ?side4 ?side5 A10.out).mono ?_); (case side1 => exact (rs_OK_below HT412.out HB.out)); (case side2 => exact Kd.C_below HR1.out (mvh HB.out)); (case side3 => exact HC1.out); (case side4 => exact mvC (Kd.R_reads' HO419.out).2.2); (case side5 => exact (Kd.R_reads' HO419.out).2.1); rintro e w34 ⟨v422,rfl,ho0,hb⟩; have n0_ := aK (Kd.R_below (mvR HO419.out) hb); have n1_ := aK (Kd.R_lower (Kd.R_newM (M := fun k_ => (w.heap.size ≤ k_)) ho0 (below_size (mvh HB.out)) (fun k_ h_ => h_)) (below_size (mvh HB.out))); have n2_ := aK (kb BK409.out hb); have n3_ := aK (below_step (mvh HB.out) hb); clear HO419 BK409 HB; have HO419 := n0_; have HO423 := n1_; have BK409 := n2_; have HB := n3_; clear n0_ n1_ n2_ n3_; (try clear hb); (try clear ho0)))
  repeat (go_quiet (first | ((with_reducible refine gate_dst (N := 3) rfl ?_); refine box_event ?hg (N := 3) ?hd (cs := #[.int .i64 a0_0,.int .u64 a0_1,.int .i64 a0_2,.int .i64 a0_3]) (t := 26) ?hr ?_; (case hd => rfl); (case hg => rfl); (case hr => first | (go_simp; done) | (go_simp; rfl)); intro gb409 hg w29 hbox hb; have n0_ := aK (below_step (mvh HB.out) hb); have n1_ := aK (hbox); have n2_ := aK ((by rw [hg]; exact (below_size (mvh HB.out)) : w.heap.size ≤ gb409)); have n3_ := aK ((by rw [hg]; exact (below_size (mvh HB.out)) : w.heap.size ≤ gb409)); clear HB; have HB := n0_; have BK409 := n1_; have GW409 := n2_; have GE409 := n3_; clear n0_ n1_ n2_ n3_; clear hb hbox hg; obtain ⟨hcz30_0,hcz30_1,hcz30_2,hcz30_3,hfz30_0,hfz30_1,hfz30_2,hfz30_3⟩ := cf4 BK409.out) | (go_at_call 27; (with_reducible refine (reedsol_open.calls k a0_0 a0_1 a0_2 a0_3 t410 t413 _ A4.out).mono ?_); rintro e w ⟨Ap411,rfl,hT_,hb⟩; have n0_ := aK (kb BK409.out hb); have n1_ := aK (Kd.C_below HR1.out (below_step (mvh HB.out) hb)); have n2_ := aK (Kd.C_below HR2.out (below_step (mvh HB.out) hb)); have n3_ := aK (Below.refl w.heap.size w); have n4_ := aK (below_step (mvh HB.out) hb); clear BK409 HR1 HR2 HB; have BK409 := n0_; have HR1 := n1_; have HR2 := n2_; have HB := n3_; have HB00 := n4_; clear n0_ n1_ n2_ n3_ n4_; have HT412 := Aside0.mk hT_; clear hb hT_) | (go_at_call 28; (with_reducible refine (reedsol_code_fits.calls k _ t410 _ _ l1 t414 _ ?side1 ?side2 ?side3 A6.out).mono ?_); (case side1 => exact HT412.out); (case side2 => exact mvC HR1.out); (case side3 => exact HC1.out); rintro e w' ⟨rfl,⟨nd,rfl⟩⟩; (try first | exact ⟨rfl,_,World.drewN_drewN _ _ _⟩ | exact ⟨rfl,_,Eq.trans (World.drewN_drewN _ _ _) (congrArg (World.drewN _) (Nat.add_assoc _ _ _))⟩)) | (go_at_call 43; (with_reducible refine (reedsol_places.calls k (l1.length : Int) _ _ l2 t415 t416 true _ ?side1 ?side2 A8.out).mono ?_); (case side1 => exact mvC HR2.out); (case side2 => exact HC2.out); rintro e w32 ⟨v418,rfl,ho0,hb⟩; have n0_ := aK (Kd.R_lower (Kd.R_newM (M := fun k_ => (w.heap.size ≤ k_)) ho0 (below_size (mvh HB.out)) (fun k_ h_ => h_)) (below_size (mvh HB.out))); have n1_ := aK (kb BK409.out hb); have n2_ := aK (below_step (mvh HB.out) hb); clear BK409 HB; have HO419 := n0_; have BK409 := n1_; have HB := n2_; clear n0_ n1_ n2_; (try clear hb); (try clear ho0); obtain ⟨Ao33,co33,eo33⟩ := Kd.R_slice HO419.out; subst eo33) | (go_at_call 44; (with_reducible refine (reedsol_code_mend.calls k _ t410 _ _ l1 _ _ t415 t416 t420 false _ ?side1 ?side2 ?side3 ?side4 ?side5 A10.out).mono ?_); (case side1 => exact (rs_OK_below HT412.out HB.out)); (case side2 => exact Kd.C_below HR1.out (mvh HB.out)); (case side3 => exact HC1.out); (case side4 => exact mvC (Kd.R_reads' HO419.out).2.2); (case side5 => exact (Kd.R_reads' HO419.out).2.1); rintro e w34 ⟨v422,rfl,ho0,hb⟩; have n0_ := aK (Kd.R_below (mvR HO419.out) hb); have n1_ := aK (Kd.R_lower (Kd.R_newM (M := fun k_ => (w.heap.size ≤ k_)) ho0 (below_size (mvh HB.out)) (fun k_ h_ => h_)) (below_size (mvh HB.out))); have n2_ := aK (kb BK409.out hb); have n3_ := aK (below_step (mvh HB.out) hb); clear HO419 BK409 HB; have HO419 := n0_; have HO423 := n1_; have BK409 := n2_; have HB := n3_; clear n0_ n1_ n2_ n3_; (try clear hb); (try clear ho0))); try go_wp2_with (first | ((with_reducible refine gate_dst (N := 3) rfl ?_); refine box_event ?hg (N := 3) ?hd (cs := #[.int .i64 a0_0,.int .u64 a0_1,.int .i64 a0_2,.int .i64 a0_3]) (t := 26) ?hr ?_; (case hd => rfl); (case hg => rfl); (case hr => first | (go_simp; done) | (go_simp; rfl)); intro gb409 hg w29 hbox hb; have n0_ := aK (below_step (mvh HB.out) hb); have n1_ := aK (hbox); have n2_ := aK ((by rw [hg]; exact (below_size (mvh HB.out)) : w.heap.size ≤ gb409)); have n3_ := aK ((by rw [hg]; exact (below_size (mvh HB.out)) : w.heap.size ≤ gb409)); clear HB; have HB := n0_; have BK409 := n1_; have GW409 := n2_; have GE409 := n3_; clear n0_ n1_ n2_ n3_; clear hb hbox hg; obtain ⟨hcz30_0,hcz30_1,hcz30_2,hcz30_3,hfz30_0,hfz30_1,hfz30_2,hfz30_3⟩ := cf4 BK409.out) | (go_at_call 27; (with_reducible refine (reedsol_open.calls k a0_0 a0_1 a0_2 a0_3 t410 t413 _ A4.out).mono ?_); rintro e w ⟨Ap411,rfl,hT_,hb⟩; have n0_ := aK (kb BK409.out hb); have n1_ := aK (Kd.C_below HR1.out (below_step (mvh HB.out) hb)); have n2_ := aK (Kd.C_below HR2.out (below_step (mvh HB.out) hb)); have n3_ := aK (Below.refl w.heap.size w); have n4_ := aK (below_step (mvh HB.out) hb); clear BK409 HR1 HR2 HB; have BK409 := n0_; have HR1 := n1_; have HR2 := n2_; have HB := n3_; have HB00 := n4_; clear n0_ n1_ n2_ n3_ n4_; have HT412 := Aside0.mk hT_; clear hb hT_) | (go_at_call 28; (with_reducible refine (reedsol_code_fits.calls k _ t410 _ _ l1 t414 _ ?side1 ?side2 ?side3 A6.out).mono ?_); (case side1 => exact HT412.out); (case side2 => exact mvC HR1.out); (case side3 => exact HC1.out); rintro e w' ⟨rfl,⟨nd,rfl⟩⟩; (try first | exact ⟨rfl,_,World.drewN_drewN _ _ _⟩ | exact ⟨rfl,_,Eq.trans (World.drewN_drewN _ _ _) (congrArg (World.drewN _) (Nat.add_assoc _ _ _))⟩)) | (go_at_call 43; (with_reducible refine (reedsol_places.calls k (l1.length : Int) _ _ l2 t415 t416 true _ ?side1 ?side2 A8.out).mono ?_); (case side1 => exact mvC HR2.out); (case side2 => exact HC2.out); rintro e w32 ⟨v418,rfl,ho0,hb⟩; have n0_ := aK (Kd.R_lower (Kd.R_newM (M := fun k_ => (w.heap.size ≤ k_)) ho0 (below_size (mvh HB.out)) (fun k_ h_ => h_)) (below_size (mvh HB.out))); have n1_ := aK (kb BK409.out hb); have n2_ := aK (below_step (mvh HB.out) hb); clear BK409 HB; have HO419 := n0_; have BK409 := n1_; have HB := n2_; clear n0_ n1_ n2_; (try clear hb); (try clear ho0); obtain ⟨Ao33,co33,eo33⟩ := Kd.R_slice HO419.out; subst eo33) | (go_at_call 44; (with_reducible refine (reedsol_code_mend.calls k _ t410 _ _ l1 _ _ t415 t416 t420 false _ ?side1 ?side2 ?side3 ?side4 ?side5 A10.out).mono ?_); (case side1 => exact (rs_OK_below HT412.out HB.out)); (case side2 => exact Kd.C_below HR1.out (mvh HB.out)); (case side3 => exact HC1.out); (case side4 => exact mvC (Kd.R_reads' HO419.out).2.2); (case side5 => exact (Kd.R_reads' HO419.out).2.1); rintro e w34 ⟨v422,rfl,ho0,hb⟩; have n0_ := aK (Kd.R_below (mvR HO419.out) hb); have n1_ := aK (Kd.R_lower (Kd.R_newM (M := fun k_ => (w.heap.size ≤ k_)) ho0 (below_size (mvh HB.out)) (fun k_ h_ => h_)) (below_size (mvh HB.out))); have n2_ := aK (kb BK409.out hb); have n3_ := aK (below_step (mvh HB.out) hb); clear HO419 BK409 HB; have HO419 := n0_; have HO423 := n1_; have BK409 := n2_; have HB := n3_; clear n0_ n1_ n2_ n3_; (try clear hb); (try clear ho0))))
  go_ret3
  exact ⟨_,by first | rfl | (simp [errW_none,errW_some] <;> rfl) | (simp [*,errW_none,errW_some] <;> rfl),Kd.V_lower (Kd.R_V (base := 0) (by first | exact Kd.R_nil _ _ _ _ _ | exact Kd.N_nil _ _ _ _ _ | exact Kd.V_nil _ _ _ _ _ | exact Kd.Q_nil _ _ _ _ _ | exact Kd.S_nil _ _ _ _ _)) HB00.out.size,below_step HB00.out (mvh HB.out)⟩
 subst c11
 have H1 : (reedsol_Decode.l0 k l1 0 t420 (t420.length : Int) 0 a0_0 a0_1 a0_2 a0_3) = some (r1,r2,r3) := by rw [if_pos rfl] at H; exact H
 clear H
 have H := H1
 clear H1
 have H' := Aside0.mk H
 clear H
 go_enter Try.func25,Try.ntmps25
 go_wp2_with (first | ((with_reducible refine gate_dst (N := 3) rfl ?_); refine box_event ?hg (N := 3) ?hd (cs := #[.int .i64 a0_0,.int .u64 a0_1,.int .i64 a0_2,.int .i64 a0_3]) (t := 26) ?hr ?_; (case hd => rfl); (case hg => rfl); (case hr => first | (go_simp; done) | (go_simp; rfl)); intro gb409 hg w12 hbox hb; have n0_ := aK (below_step (mvh HB.out) hb); have n1_ := aK (hbox); have n2_ := aK ((by rw [hg]; exact (below_size (mvh HB.out)) : w.heap.size ≤ gb409)); have n3_ := aK ((by rw [hg]; exact (below_size (mvh HB.out)) : w.heap.size ≤ gb409)); clear HB; have HB := n0_; have BK409 := n1_; have GW409 := n2_; have GE409 := n3_; clear n0_ n1_ n2_ n3_; clear hb hbox hg; obtain ⟨hcz13_0,hcz13_1,hcz13_2,hcz13_3,hfz13_0,hfz13_1,hfz13_2,hfz13_3⟩ := cf4 BK409.out) | (go_at_call 27; (with_reducible refine (reedsol_open.calls k a0_0 a0_1 a0_2 a0_3 t410 t413 _ A4.out).mono ?_); rintro e w ⟨Ap411,rfl,hT_,hb⟩; have n0_ := aK (kb BK409.out hb); have n1_ := aK (Kd.C_below HR1.out (below_step (mvh HB.out) hb)); have n2_ := aK (Kd.C_below HR2.out (below_step (mvh HB.out) hb)); have n3_ := aK (Below.refl w.heap.size w); have n4_ := aK (below_step (mvh HB.out) hb); clear BK409 HR1 HR2 HB; have BK409 := n0_; have HR1 := n1_; have HR2 := n2_; have HB := n3_; have HB00 := n4_; clear n0_ n1_ n2_ n3_ n4_; have HT412 := Aside0.mk hT_; clear hb hT_) | (go_at_call 28; (with_reducible refine (reedsol_code_fits.calls k _ t410 _ _ l1 t414 _ ?side1 ?side2 ?side3 A6.out).mono ?_); (case side1 => exact HT412.out); (case side2 => exact mvC HR1.out); (case side3 => exact HC1.out); rintro e w' ⟨rfl,⟨nd,rfl⟩⟩; (try first | exact ⟨rfl,_,World.drewN_drewN _ _ _⟩ | exact ⟨rfl,_,Eq.trans (World.drewN_drewN _ _ _) (congrArg (World.drewN _) (Nat.add_assoc _ _ _))⟩)) | (go_at_call 43; (with_reducible refine (reedsol_places.calls k (l1.length : Int) _ _ l2 t415 t416 true _ ?side1 ?side2 A8.out).mono ?_); (case side1 => exact mvC HR2.out); (case side2 => exact HC2.out); rintro e w15 ⟨v418,rfl,ho0,hb⟩; have n0_ := aK (Kd.R_lower (Kd.R_newM (M := fun k_ => (w.heap.size ≤ k_)) ho0 (below_size (mvh HB.out)) (fun k_ h_ => h_)) (below_size (mvh HB.out))); have n1_ := aK (kb BK409.out hb); have n2_ := aK (below_step (mvh HB.out) hb); clear BK409 HB; have HO419 := n0_; have BK409 := n1_; have HB := n2_; clear n0_ n1_ n2_; (try clear hb); (try clear ho0); obtain ⟨Ao16,co16,eo16⟩ := Kd.R_slice HO419.out; subst eo16) | (go_at_call 44; (with_reducible refine (reedsol_code_mend.calls k _ t410 _ _ l1 _ _ t415 t416 t420 true _ ?side1 ?side2 ?side3 ?side4 ?side5 A10.out).mono ?_); (case side1 => exact (rs_OK_below HT412.out HB.out)); (case side2 => exact Kd.C_below HR1.out (mvh HB.out)); (case side3 => exact HC1.out); (case side4 => exact mvC (Kd.R_reads' HO419.out).2.2); (case side5 => exact (Kd.R_reads' HO419.out).2.1); rintro e w17 ⟨v422,rfl,ho0,hb⟩; have n0_ := aK (Kd.R_below (mvR HO419.out) hb); have n1_ := aK (Kd.R_lower (Kd.R_newM (M := fun k_ => (w.heap.size ≤ k_)) ho0 (below_size (mvh HB.out)) (fun k_ h_ => h_)) (below_size (mvh HB.out))); have n2_ := aK (kb BK409.out hb); have n3_ := aK (below_step (mvh HB.out) hb); clear HO419 BK409 HB; have HO419 := n0_; have HO423 := n1_; have BK409 := n2_; have HB := n3_; clear n0_ n1_ n2_ n3_; (try clear hb); (try clear ho0); obtain ⟨Ao18,co18,eo18⟩ := Kd.R_slice HO423.out; subst eo18))
 repeat (go_quiet (first | ((with_reducible refine gate_dst (N := 3) rfl ?_); refine box_event ?hg (N := 3) ?hd (cs := #[.int .i64 a0_0,.int .u64 a0_1,.int .i64 a0_2,.int .i64 a0_3]) (t := 26) ?hr ?_; (case hd => rfl); (case hg => rfl); (case hr => first | (go_simp; done) | (go_simp; rfl)); intro gb409 hg w12 hbox hb; have n0_ := aK (below_step (mvh HB.out) hb); have n1_ := aK (hbox); have n2_ := aK ((by rw [hg]; exact (below_size (mvh HB.out)) : w.heap.size ≤ gb409)); have n3_ := aK ((by rw [hg]; exact (below_size (mvh HB.out)) : w.heap.size ≤ gb409)); clear HB; have HB := n0_; have BK409 := n1_; have GW409 := n2_; have GE409 := n3_; clear n0_ n1_ n2_ n3_; clear hb hbox hg; obtain ⟨hcz13_0,hcz13_1,hcz13_2,hcz13_3,hfz13_0,hfz13_1,hfz13_2,hfz13_3⟩ := cf4 BK409.out) | (go_at_call 27; (with_reducible refine (reedsol_open.calls k a0_0 a0_1 a0_2 a0_3 t410 t413 _ A4.out).mono ?_); rintro e w ⟨Ap411,rfl,hT_,hb⟩; have n0_ := aK (kb BK409.out hb); have n1_ := aK (Kd.C_below HR1.out (below_step (mvh HB.out) hb)); have n2_ := aK (Kd.C_below HR2.out (below_step (mvh HB.out) hb)); have n3_ := aK (Below.refl w.heap.size w); have n4_ := aK (below_step (mvh HB.out) hb); clear BK409 HR1 HR2 HB; have BK409 := n0_; have HR1 := n1_; have HR2 := n2_; have HB := n3_; have HB00 := n4_; clear n0_ n1_ n2_ n3_ n4_; have HT412 := Aside0.mk hT_; clear hb hT_) | (go_at_call 28; (with_reducible refine (reedsol_code_fits.calls k _ t410 _ _ l1 t414 _ ?side1 ?side2 ?side3 A6.out).mono ?_); (case side1 => exact HT412.out); (case side2 => exact mvC HR1.out); (case side3 => exact HC1.out); rintro e w' ⟨rfl,⟨nd,rfl⟩⟩; (try first | exact ⟨rfl,_,World.drewN_drewN _ _ _⟩ | exact ⟨rfl,_,Eq.trans (World.drewN_drewN _ _ _) (congrArg (World.drewN _) (Nat.add_assoc _ _ _))⟩)) | (go_at_call 43; (with_reducible refine (reedsol_places.calls k (l1.length : Int) _ _ l2 t415 t416 true _ ?side1 ?side2 A8.out).mono ?_); (case side1 => exact mvC HR2.out); (case side2 => exact HC2.out); rintro e w15 ⟨v418,rfl,ho0,hb⟩; have n0_ := aK (Kd.R_lower (Kd.R_newM (M := fun k_ => (w.heap.size ≤ k_)) ho0 (below_size (mvh HB.out)) (fun k_ h_ => h_)) (below_size (mvh HB.out))); have n1_ := aK (kb BK409.out hb); have n2_ := aK (below_step (mvh HB.out) hb); clear BK409 HB; have HO419 := n0_; have BK409 := n1_; have HB := n2_; clear n0_ n1_ n2_; (try clear hb); (try clear ho0); obtain ⟨Ao16,co16,eo16⟩ := Kd.R_slice HO419.out; subst eo16) | (go_at_call 44; (with_reducible refine (reedsol_code_mend.calls k _ t410 _ _ l1 _ _ t415 t416 t420 true _ ?side1 ?side2 ?side3 ?side4 ?side5 A10.out).mono ?_); (case side1 => exact (rs_OK_below HT412.out HB.out)); (case side2 => exact Kd.C_below HR1.out (mvh HB.out)); (case side3 => exact HC1.out); (case side4 => exact mvC (Kd.R_reads' HO419.out).2.2); (case side5 => exact (Kd.R_reads' HO419.out).2.1); rintro e w17 ⟨v422,rfl,ho0,hb⟩; have n0_ := aK (Kd.R_below (mvR HO419.out) hb); have n1_ := aK (Kd.R_lower (Kd.R_newM (M := fun k_ => (w.heap.size ≤ k_)) ho0 (below_size (mvh HB.out)) (fun k_ h_ => h_)) (below_size (mvh HB.out))); have n2_ := aK (kb BK409.out hb); have n3_ := aK (below_step (mvh HB.out) hb); clear HO419 BK409 HB; have HO419 := n0_; have HO423 := n1_; have BK409 := n2_; have HB := n3_; clear n0_ n1_ n2_ n3_; (try clear hb); (try clear ho0); obtain ⟨Ao18,co18,eo18⟩ := Kd.R_slice HO423.out; subst eo18)); try go_wp2_with (first | ((with_reducible refine gate_dst (N := 3) rfl ?_); refine box_event ?hg (N := 3) ?hd (cs := #[.int .i64 a0_0,.int .u64 a0_1,.int .i64 a0_2,.int .i64 a0_3]) (t := 26) ?hr ?_; (case hd => rfl); (case hg => rfl); (case hr => first | (go_simp; done) | (go_simp; rfl)); intro gb409 hg w12 hbox hb; have n0_ := aK (below_step (mvh HB.out) hb); have n1_ := aK (hbox); have n2_ := aK ((by rw [hg]; exact (below_size (mvh HB.out)) : w.heap.size ≤ gb409)); have n3_ := aK ((by rw [hg]; exact (below_size (mvh HB.out)) : w.heap.size ≤ gb409)); clear HB; have HB := n0_; have BK409 := n1_; have GW409 := n2_; have GE409 := n3_; clear n0_ n1_ n2_ n3_; clear hb hbox hg; obtain ⟨hcz13_0,hcz13_1,hcz13_2,hcz13_3,hfz13_0,hfz13_1,hfz13_2,hfz13_3⟩ := cf4 BK409.out) | (go_at_call 27; (with_reducible refine (reedsol_open.calls k a0_0 a0_1 a0_2 a0_3 t410 t413 _ A4.out).mono ?_); rintro e w ⟨Ap411,rfl,hT_,hb⟩; have n0_ := aK (kb BK409.out hb); have n1_ := aK (Kd.C_below HR1.out (below_step (mvh HB.out) hb)); have n2_ := aK (Kd.C_below HR2.out (below_step (mvh HB.out) hb)); have n3_ := aK (Below.refl w.heap.size w); have n4_ := aK (below_step (mvh HB.out) hb); clear BK409 HR1 HR2 HB; have BK409 := n0_; have HR1 := n1_; have HR2 := n2_; have HB := n3_; have HB00 := n4_; clear n0_ n1_ n2_ n3_ n4_; have HT412 := Aside0.mk hT_; clear hb hT_) | (go_at_call 28; (with_reducible refine (reedsol_code_fits.calls k _ t410 _ _ l1 t414 _ ?side1 ?side2 ?side3 A6.out).mono ?_); (case side1 => exact HT412.out); (case side2 => exact mvC HR1.out); (case side3 => exact HC1.out); rintro e w' ⟨rfl,⟨nd,rfl⟩⟩; (try first | exact ⟨rfl,_,World.drewN_drewN _ _ _⟩ | exact ⟨rfl,_,Eq.trans (World.drewN_drewN _ _ _) (congrArg (World.drewN _) (Nat.add_assoc _ _ _))⟩)) | (go_at_call 43; (with_reducible refine (reedsol_places.calls k (l1.length : Int) _ _ l2 t415 t416 true _ ?side1 ?side2 A8.out).mono ?_); (case side1 => exact mvC HR2.out); (case side2 => exact HC2.out); rintro e w15 ⟨v418,rfl,ho0,hb⟩; have n0_ := aK (Kd.R_lower (Kd.R_newM (M := fun k_ => (w.heap.size ≤ k_)) ho0 (below_size (mvh HB.out)) (fun k_ h_ => h_)) (below_size (mvh HB.out))); have n1_ := aK (kb BK409.out hb); have n2_ := aK (below_step (mvh HB.out) hb); clear BK409 HB; have HO419 := n0_; have BK409 := n1_; have HB := n2_; clear n0_ n1_ n2_; (try clear hb); (try clear ho0); obtain ⟨Ao16,co16,eo16⟩ := Kd.R_slice HO419.out; subst eo16) | (go_at_call 44; (with_reducible refine (reedsol_code_mend.calls k _ t410 _ _ l1 _ _ t415 t416 t420 true _ ?side1 ?side2 ?side3 ?side4 ?side5 A10.out).mono ?_); (case side1 => exact (rs_OK_below HT412.out HB.out)); (case side2 => exact Kd.C_below HR1.out (mvh HB.out)); (case side3 => exact HC1.out); (case side4 => exact mvC (Kd.R_reads' HO419.out).2.2); (case side5 => exact (Kd.R_reads' HO419.out).2.1); rintro e w17 ⟨v422,rfl,ho0,hb⟩; have n0_ := aK (Kd.R_below (mvR HO419.out) hb); have n1_ := aK (Kd.R_lower (Kd.R_newM (M := fun k_ => (w.heap.size ≤ k_)) ho0 (below_size (mvh HB.out)) (fun k_ h_ => h_)) (below_size (mvh HB.out))); have n2_ := aK (kb BK409.out hb); have n3_ := aK (below_step (mvh HB.out) hb); clear HO419 BK409 HB; have HO419 := n0_; have HO423 := n1_; have BK409 := n2_; have HB := n3_; clear n0_ n1_ n2_ n3_; (try clear hb); (try clear ho0); obtain ⟨Ao18,co18,eo18⟩ := Kd.R_slice HO423.out; subst eo18)))
 go_loopg [7,53] k (fun kq v7 v53 w' => ∃ (x7_1 : Int) (x53_1 : Int),v7 = .int .i64 x7_1 ∧ v53 = .int .i64 x53_1 ∧ Aside0 (reedsol_Decode.l0 kq l1 x7_1 t420 (t420.length : Int) x53_1 a0_0 a0_1 a0_2 a0_3 = some (r1,r2,r3)) ∧ Aside0 (kq ≤ k) ∧ Aside0 (Kd.R (Kd.int .u8) 5 w' w.heap.size (fun k_ => (w.heap.size ≤ k_)) (.slice Ao18 t420.length co18) t420) ∧ Aside0 (w'.heap[gb409]? = some (.cells #[.int .i64 a0_0,.int .u64 a0_1,.int .i64 a0_2,.int .i64 a0_3] 26 (0,0))) ∧ Aside0 (Below w.heap.size w w'))
 case atStart => exact ⟨(0),(0),(by first | rfl | (simp; done) | (simp [*]; done) | (simp [wrap64]; done)),(by first | rfl | (simp; done) | (simp [*]; done) | (simp [wrap64]; done)),H',⟨Nat.le_refl _⟩,⟨by (with_reducible repeat (first | apply Kd.R_alloc | apply Kd.R_drewN | apply Kd.R_drew)); exact Kd.R_mono HO423.out (fun _ hk => hk.1)⟩,⟨mvb BK409.out⟩,⟨mvh HB.out⟩⟩
 case round =>
  clear H'
  (try clear c1); (try clear c2); (try clear p2); (try clear p4); (try clear c5); (try clear c5b0); (try clear c5b1); (try clear p6); (try clear c7); (try clear c7b0); (try clear c7b1); (try clear c9); (try clear c11); (try clear hcz13_0); (try clear hcz13_1); (try clear hcz13_2); (try clear hcz13_3)
  (try clear hfz13_0); (try clear hfz13_1); (try clear hfz13_2); (try clear hfz13_3)
  obtain ⟨x7_1,x53_1,rfl,rfl,HA,HK1,HO_14,BK409,HB⟩ := hrel
  cases gk with
  | zero => exact absurd HA.out (by simp [reedsol_Decode.l0])
  | succ k1 =>
   have H := HA.out
   clear HA
   simp only [reedsol_Decode.l0] at H
   by_cases c19 : x53_1 < (t420.length : Int)
   rotate_left
   ·rw [if_neg c19] at H
    have c19b0 : decide (x53_1 < (t420.length : Int)) = false := decide_eq_false c19
    clear c19
    obtain ⟨ji24,hji24⟩ : ∃ j_ : Int,(wrap64 ((t420.length : Int) - a0_3)) = j_ := ⟨_,rfl⟩
    first | rw [hji24] at H | simp only [hji24] at H
    have hji24w : (IntKind.i64.wrap ((t420.length : Int) - a0_3)) = ji24 := (i64_w _).trans hji24
    by_cases c25 : 0 ≤ (ji24)
    rotate_left
    ·rw [if_neg c25] at H
     exact absurd H (by simp)
    rw [if_pos c25] at H
    have c25b0 := eq_true c25
    have c25b1 : decide (0 ≤ (ji24)) = true := decide_eq_true c25
    clear c25
    by_cases c26 : (ji24) ≤ (t420.length : Int)
    rotate_left
    ·rw [if_neg c26] at H
     exact absurd H (by simp)
    rw [if_pos c26] at H
    have c26b0 := eq_true c26
    have c26b1 : decide ((ji24) ≤ (t420.length : Int)) = true := decide_eq_true c26
    clear c26
    obtain ⟨y426,hy426⟩ : ∃ y_ : List Int,y_ = (t420.take ((ji24) : Int).toNat) := ⟨_,rfl⟩
    replace H : (some (y426,x7_1,0)) = some (r1,r2,r3) := by rw [hy426]; exact H
    have Ny426 := Aside0.mk hy426
    clear hy426
    simp only [Option.some.injEq,Prod.mk.injEq] at H
    obtain ⟨rfl,rfl,rfl⟩ := H
    obtain ⟨hcz27_0,hcz27_1,hcz27_2,hcz27_3,hfz27_0,hfz27_1,hfz27_2,hfz27_3⟩ := cf4 BK409.out
    have q28 : ((ji24) : Int) ≤ ((t420.length : Int) : Int) := of_decide_eq_true (by first | (with_reducible assumption) | assumption)
    obtain ⟨i028,hi028,_,hsz28,_⟩ := info_parts info5
    have hroom28 : t420.length ≤ co18 := (Kd.R_reads' HO_14.out).2.1
    have hC28 : Kd.F (Kd.int .u8) _ _ Ao18 t420.length t420 := (Kd.V_at (base := w.heap.size) (Kd.R_V (Kd.R_types (HO_14.out) BK409.out (by decide)))).2.2
    have hcut28 := cut_to3 (P := Try.prog) 27 5 .i64 Try.underlying27 hi028 Ao18 t420.length co18 (ji24) (of_decide_eq_true (by first | (with_reducible assumption) | assumption)) q28 hroom28
    have hr28 := Kd.F_take (m := ((ji24) : Int).toNat) hC28 (by omega)
    have hy28 : y426.length = ((ji24) : Int).toNat := (by rw [Ny426.out,List.length_take]; omega)
    rw [← Ny426.out] at hr28
    rw [← hy28] at hcut28
    have HO430 := aK (show Kd.V (Kd.int .u8) 5 _ w.heap.size _ (.slice Ao18 y426.length y426.length) y426 from Kd.V_mk (by omega) hr28)
    have HC430 := aK (show y426.length ≤ y426.length from by omega)
    clear hr28 hC28 hroom28 hi028 hsz28
    have KY28 := Aside0.mk hy28
    clear hy28
    replace q28 := eq_true q28
    go_wp2
    repeat (go_quiet (fail); try go_wp2)
    go_ret3
    exact ⟨_,by first | rfl | (simp [errW_none,errW_some] <;> rfl) | (simp only [← hji24]; first | rfl | (simp [errW_none,errW_some] <;> rfl)) | (simp [*,errW_none,errW_some] <;> rfl),Kd.V_lower (by (with_reducible repeat (first | apply Kd.V_alloc | apply Kd.V_drewN | apply Kd.V_drew)); exact Kd.V_mono HO430.out (fun _ hk => by first | exact hk.1 | exact Nat.le_trans HB00.out.size hk.1)) HB00.out.size,below_step HB00.out (mvh HB.out)⟩
   rw [if_pos c19] at H
   have c19b0 : decide (x53_1 < (t420.length : Int)) = true := decide_eq_true c19
   clear c19
   by_cases c20 : 0 ≤ x53_1
   rotate_left
   ·rw [if_neg c20] at H
    exact absurd H (by simp)
   rw [if_pos c20] at H
   have c20b0 : decide (0 ≤ x53_1) = true := decide_eq_true c20
   clear c20
   by_cases c21 : x53_1 < (t420.length : Int)
   rotate_left
   ·rw [if_neg c21] at H
    exact absurd H (by simp)
   rw [if_pos c21] at H
   have c21b0 : decide (x53_1 < (t420.length : Int)) = true := decide_eq_true c21
   clear c21
   by_cases c22 : x53_1 < (l1.length : Int)
   rotate_left
   ·rw [if_neg c22] at H
    exact absurd H (by simp)
   rw [if_pos c22] at H
   have c22b0 : decide (x53_1 < (l1.length : Int)) = true := decide_eq_true c22
   clear c22
   by_cases c23 : (rd t420 x53_1) = (rd l1 x53_1)
   rotate_left
   ·rw [if_neg c23] at H
    have c23b0 : ((rd t420 x53_1) == (rd l1 x53_1)) = false := beq_eq_false_iff_ne.mpr c23
    have c23b1 : ((rd t420 x53_1) != (rd l1 x53_1)) = true := bne_iff_ne.mpr c23
    have H' := Aside0.mk H
    clear H
    have p424 : 0 ≤ (x53_1 : Int) := of_decide_eq_true (by first | (with_reducible assumption) | assumption)
    have q424 : x53_1 < (t420.length : Int) := of_decide_eq_true (by first | (with_reducible assumption) | assumption)
    obtain ⟨ad424,e424,hx424_0⟩ := Kd.at_int (Kd.R_reads' HO_14.out).2.2 x53_1 p424 q424
    cases e424
    replace p424 := eq_true p424
    replace q424 := eq_true q424
    have p425 : 0 ≤ (x53_1 : Int) := of_decide_eq_true (by first | (with_reducible assumption) | assumption)
    have q425 : x53_1 < (l1.length : Int) := of_decide_eq_true (by first | (with_reducible assumption) | assumption)
    obtain ⟨ad425,e425,hx425_0⟩ := Kd.at_int HR1.out x53_1 p425 q425
    cases e425
    replace hx425_0 := (HB.out.cell (World.block_lt_of_cell? w _ hx425_0)).trans hx425_0
    replace p425 := eq_true p425
    replace q425 := eq_true q425
    go_wp2
    repeat (go_quiet (fail); try go_wp2)
    go_roundg k1
    case measure => have := HK1.out; omega
    case rel => exact ⟨(wrap64 (x7_1 + 1)),(wrap64 (x53_1 + 1)),(by first | rfl | (simp; done) | (simp [*]; done) | (simp [wrap64]; done)),(by first | rfl | (simp; done) | (simp [*]; done) | (simp [wrap64]; done)),H',⟨by have := HK1.out; omega⟩,⟨mvR HO_14.out⟩,⟨mvb BK409.out⟩,⟨mvh HB.out⟩⟩
   rw [if_pos c23] at H
   have c23b0 : ((rd t420 x53_1) == (rd l1 x53_1)) = true := beq_iff_eq.mpr c23
   have c23b1 : ((rd t420 x53_1) != (rd l1 x53_1)) = false := bne_eq_false_iff_eq.mpr c23
   clear c23
   have H' := Aside0.mk H
   clear H
   have p424 : 0 ≤ (x53_1 : Int) := of_decide_eq_true (by first | (with_reducible assumption) | assumption)
   have q424 : x53_1 < (t420.length : Int) := of_decide_eq_true (by first | (with_reducible assumption) | assumption)
   obtain ⟨ad424,e424,hx424_0⟩ := Kd.at_int (Kd.R_reads' HO_14.out).2.2 x53_1 p424 q424
   cases e424
   replace p424 := eq_true p424
   replace q424 := eq_true q424
   have p425 : 0 ≤ (x53_1 : Int) := of_decide_eq_true (by first | (with_reducible assumption) | assumption)
   have q425 : x53_1 < (l1.length : Int) := of_decide_eq_true (by first | (with_reducible assumption) | assumption)
   obtain ⟨ad425,e425,hx425_0⟩ := Kd.at_int HR1.out x53_1 p425 q425
   cases e425
   replace hx425_0 := (HB.out.cell (World.block_lt_of_cell? w _ hx425_0)).trans hx425_0
   replace p425 := eq_true p425
   replace q425 := eq_true q425
   go_wp2
   repeat (go_quiet (fail); try go_wp2)
   go_roundg k1
   case measure => have := HK1.out; omega
   case rel => exact ⟨(x7_1),(wrap64 (x53_1 + 1)),(by first | rfl | (simp; done) | (simp [*]; done) | (simp [wrap64]; done)),(by first | rfl | (simp; done) | (simp [*]; done) | (simp [wrap64]; done)),H',⟨by have := HK1.out; omega⟩,⟨mvR HO_14.out⟩,⟨mvb BK409.out⟩,⟨mvh HB.out⟩⟩
def l4_Plain.f  : Option (Int × Int × Int × Int) := some (3,11,1,2)
set_option maxHeartbeats 8000000 in
set_option maxRecDepth 100000 in
theorem l4_Plain.calls  (r1 : Int) (r2 : Int) (r3 : Int) (r4 : Int) (w : World) (h : l4_Plain.f  = some (r1,r2,r3,r4)) :
  Calls Try.prog 32 #[] w fun e w' => e = .returned (.agg #[.int .i64 r1,.int .u64 r2,.int .i64 r3,.int .i64 r4]) ∧ Below w.heap.size w w' := by
 have hu26 := Try.underlying26
 have hu24 := Try.underlying24
 have HB := aK (Below.refl w.heap.size w)
 have H : (some (3,11,1,2)) = some (r1,r2,r3,r4) := h
 clear h
 simp only [Option.some.injEq,Prod.mk.injEq] at H
 obtain ⟨rfl,rfl,rfl,rfl⟩ := H
 go_enter Try.func32,Try.ntmps32
 go_wp2_with (first | ((with_reducible refine gate_dst (N := 0) rfl ?_); refine box_event ?hg (N := 0) ?hd (cs := #[.int .i64 0,.int .u64 0,.int .i64 0,.int .i64 0]) (t := 26) ?hr ?_; (case hd => rfl); (case hg => rfl); (case hr => first | (go_simp; done) | (go_simp; rfl)); intro gb431 hg w1 hbox hb; have n0_ := aK (below_step (mvh HB.out) hb); have n1_ := aK (hbox); have n2_ := aK ((by rw [hg]; exact (below_size (mvh HB.out)) : w.heap.size ≤ gb431)); have n3_ := aK ((by rw [hg]; exact (below_size (mvh HB.out)) : w.heap.size ≤ gb431)); clear HB; have HB := n0_; have BK431 := n1_; have GW431 := n2_; have GE431 := n3_; clear n0_ n1_ n2_ n3_; clear hb hbox hg; obtain ⟨hcz2_0,hcz2_1,hcz2_2,hcz2_3,hfz2_0,hfz2_1,hfz2_2,hfz2_3⟩ := cf4 BK431.out))
 refine bodyPost_ret (results_cell_row rfl _ _ gb431 26 #[.int .i64 3,.int .u64 11,.int .i64 1,.int .i64 2] (0,0) _ rfl (by (with_reducible repeat (first | apply bN | apply bD | apply bA)); refine blk_put (cs := #[.int .i64 3,.int .u64 11,.int .i64 1,.int .i64 0]) ?_ 3 _ rfl; (with_reducible repeat (first | apply bN | apply bD | apply bA)); refine blk_put (cs := #[.int .i64 3,.int .u64 11,.int .i64 0,.int .i64 0]) ?_ 2 _ rfl; (with_reducible repeat (first | apply bN | apply bD | apply bA)); refine blk_put (cs := #[.int .i64 3,.int .u64 0,.int .i64 0,.int .i64 0]) ?_ 1 _ rfl; (with_reducible repeat (first | apply bN | apply bD | apply bA)); refine blk_put (cs := #[.int .i64 0,.int .u64 0,.int .i64 0,.int .i64 0]) ?_ 0 _ rfl; exact mvb BK431.out) Try.underlying26 rfl (by kernel_rfl)) rfl ?_
 exact ⟨by first | rfl | (simp [errW_none,errW_some] <;> rfl) | (simp [*,errW_none,errW_some] <;> rfl),by repeat (first | (with_reducible first | exact HB.out | apply hA | apply hN | apply hD | refine below_set ?_ GE431.out) | exact HB.out)⟩


end Go.Proofs.Ytdhnjnkjhfomiaa.P

