-- written by mk.sh, a program of this session, over the kit's print
import Derived.Test.YtjdkamhnbheofaaGtPx0
import Derived.Test.YtjdkamhnbheofaaGtPx10
import Derived.Test.YtjdkamhnbheofaaGtPx11
import Derived.Test.YtjdkamhnbheofaaGtPx12
import Derived.Test.YtjdkamhnbheofaaGtPx13
namespace Go.Proofs.Ytjdkamhnbheofaa.P
open Go.RowKit Go.Proofs.YtjdkamhnbheofaaW.PrintWords Go.Proofs.YtjdkamhnbheofaaW.PrintLast Go.Proofs.YtjdkamhnbheofaaW.PrintMore
attribute [local go_sem] max2_int min2_int max_two min_two max_three min_three max_four min_four   -- for this text's walks alone
set_option linter.unusedVariables false
set_option linter.unusedSimpArgs false

/-! ### outpostref32_Through: function 11 -/
mutual
def outpostref32_Through.j0 : Nat → List Int → List Int → Int → Bool → Int → Int → Option (List Int × Int)
 | 0, _, _, _, _, _, _ => none
 | k + 1, x1, x2, x8, x28, x385000, x385001 => if x28 = true then (outpostref32_Through.j1 k x1 x2 5 x385000 x385001) else (outpostref32_Through.j1 k x1 x2 x8 x385000 x385001)
def outpostref32_Through.j1 : Nat → List Int → List Int → Int → Int → Int → Option (List Int × Int)
 | 0, _, _, _, _, _ => none
 | k + 1, x1, x2, x8, x385000, x385001 => if x8 = 0 then (outpostref32_Through.l0 k x1 x2 ([] : List Int) (([1] : List Int)) 0 x385000 x385001) else (some (([] : List Int), x8))
def outpostref32_Through.l0 : Nat → List Int → List Int → List Int → List Int → Int → Int → Int → Option (List Int × Int)
 | 0, _, _, _, _, _, _, _ => none
 | k + 1, x1, x2, x9, x10, x11, x385000, x385001 => if x11 < (x1.length : Int) then (if 0 ≤ x11 then ((outpostref32_value.f k x385000 x385001 x10 (rd x1 x11)).bind fun t390 => (if t390 = 0 then (some (([] : List Int), 3)) else ((outpostref32_Inv.f k x385000 x385001 t390).bind fun bt391 => (if x11 < (x2.length : Int) then ((outpostref32_value.f k x385000 x385001 x9 (rd x1 x11)).bind fun t395 => ((outpostref32_quick.f k x385000 x385001 (Go.bits .xor .u8 (rd x2 x11) t395) bt391.1).bind fun t396 => ((outpostref32_product.f k x385000 x385001 x10 (([t396] : List Int))).bind fun t400 => ((outpostref32_plus.f k x9 t400).bind fun t403 => ((outpostref32_product.f k x385000 x385001 x10 (([1, rd x1 x11] : List Int))).bind fun t410 => (outpostref32_Through.l0 k x1 x2 t403 t410 (wrap64 (x11 + 1)) x385000 x385001)))))) else (none))))) else (none)) else (some (x9, 0))
end
def outpostref32_Through.f (k : Nat) (a0_0 : Int) (a0_1 : Int) (l1 : List Int) (l2 : List Int) : Option (List Int × Int) := (outpostref32_wrong.f k a0_0 a0_1 l1 l2).bind fun t385 => (if t385 = 0 then (outpostref32_Through.j0 k l1 l2 t385 ((l1.length : Int) != (l2.length : Int)) a0_0 a0_1) else (outpostref32_Through.j0 k l1 l2 t385 false a0_0 a0_1))
theorem outpostref32_Through.mono_l : ∀ k, (∀ y0 y1 y2 y3 y4 y5, LeO (outpostref32_Through.j0 k y0 y1 y2 y3 y4 y5) (outpostref32_Through.j0 (k + 1) y0 y1 y2 y3 y4 y5)) ∧ (∀ y0 y1 y2 y3 y4, LeO (outpostref32_Through.j1 k y0 y1 y2 y3 y4) (outpostref32_Through.j1 (k + 1) y0 y1 y2 y3 y4)) ∧ (∀ y0 y1 y2 y3 y4 y5 y6, LeO (outpostref32_Through.l0 k y0 y1 y2 y3 y4 y5 y6) (outpostref32_Through.l0 (k + 1) y0 y1 y2 y3 y4 y5 y6))
 | 0 => ⟨fun _ _ _ _ _ _ r h => by simp [outpostref32_Through.j0] at h, fun _ _ _ _ _ r h => by simp [outpostref32_Through.j1] at h, fun _ _ _ _ _ _ _ r h => by simp [outpostref32_Through.l0] at h⟩
 | k + 1 => by
  obtain ⟨ih0, ih1, ih2⟩ := outpostref32_Through.mono_l k
  refine ⟨?_, ?_, ?_⟩
  ·intro y0 y1 y2 y3 y4 y5
   unfold outpostref32_Through.j0
   repeat' first
   | (with_reducible exact ih0 _ _ _ _ _ _)
   | (with_reducible exact ih1 _ _ _ _ _)
   | (with_reducible exact ih2 _ _ _ _ _ _ _)
   | (with_reducible exact outpostref32_Inv.mono _ _ _ _)
   | (with_reducible exact outpostref32_plus.mono _ _ _)
   | (with_reducible exact outpostref32_product.mono _ _ _ _ _)
   | (with_reducible exact outpostref32_quick.mono _ _ _ _ _)
   | (with_reducible exact outpostref32_value.mono _ _ _ _ _)
   | (with_reducible exact outpostref32_wrong.mono _ _ _ _ _)
   | (with_reducible exact LeO.refl _)
   | (with_reducible exact LeO.none _)
   | (with_reducible refine LeO.ite ?_ ?_)
   | (with_reducible refine LeO.bind ?_ (fun _ => ?_))
   | exact ih0 _ _ _ _ _ _
   | exact ih1 _ _ _ _ _
   | exact ih2 _ _ _ _ _ _ _
   | exact outpostref32_Inv.mono _ _ _ _
   | exact outpostref32_plus.mono _ _ _
   | exact outpostref32_product.mono _ _ _ _ _
   | exact outpostref32_quick.mono _ _ _ _ _
   | exact outpostref32_value.mono _ _ _ _ _
   | exact outpostref32_wrong.mono _ _ _ _ _
   | exact LeO.none _
   | refine LeO.ite ?_ ?_
   | refine LeO.bind ?_ (fun _ => ?_)
  ·intro y0 y1 y2 y3 y4
   unfold outpostref32_Through.j1
   repeat' first
   | (with_reducible exact ih0 _ _ _ _ _ _)
   | (with_reducible exact ih1 _ _ _ _ _)
   | (with_reducible exact ih2 _ _ _ _ _ _ _)
   | (with_reducible exact outpostref32_Inv.mono _ _ _ _)
   | (with_reducible exact outpostref32_plus.mono _ _ _)
   | (with_reducible exact outpostref32_product.mono _ _ _ _ _)
   | (with_reducible exact outpostref32_quick.mono _ _ _ _ _)
   | (with_reducible exact outpostref32_value.mono _ _ _ _ _)
   | (with_reducible exact outpostref32_wrong.mono _ _ _ _ _)
   | (with_reducible exact LeO.refl _)
   | (with_reducible exact LeO.none _)
   | (with_reducible refine LeO.ite ?_ ?_)
   | (with_reducible refine LeO.bind ?_ (fun _ => ?_))
   | exact ih0 _ _ _ _ _ _
   | exact ih1 _ _ _ _ _
   | exact ih2 _ _ _ _ _ _ _
   | exact outpostref32_Inv.mono _ _ _ _
   | exact outpostref32_plus.mono _ _ _
   | exact outpostref32_product.mono _ _ _ _ _
   | exact outpostref32_quick.mono _ _ _ _ _
   | exact outpostref32_value.mono _ _ _ _ _
   | exact outpostref32_wrong.mono _ _ _ _ _
   | exact LeO.none _
   | refine LeO.ite ?_ ?_
   | refine LeO.bind ?_ (fun _ => ?_)
  ·intro y0 y1 y2 y3 y4 y5 y6
   unfold outpostref32_Through.l0
   repeat' first
   | (with_reducible exact ih0 _ _ _ _ _ _)
   | (with_reducible exact ih1 _ _ _ _ _)
   | (with_reducible exact ih2 _ _ _ _ _ _ _)
   | (with_reducible exact outpostref32_Inv.mono _ _ _ _)
   | (with_reducible exact outpostref32_plus.mono _ _ _)
   | (with_reducible exact outpostref32_product.mono _ _ _ _ _)
   | (with_reducible exact outpostref32_quick.mono _ _ _ _ _)
   | (with_reducible exact outpostref32_value.mono _ _ _ _ _)
   | (with_reducible exact outpostref32_wrong.mono _ _ _ _ _)
   | (with_reducible exact LeO.refl _)
   | (with_reducible exact LeO.none _)
   | (with_reducible refine LeO.ite ?_ ?_)
   | (with_reducible refine LeO.bind ?_ (fun _ => ?_))
   | exact ih0 _ _ _ _ _ _
   | exact ih1 _ _ _ _ _
   | exact ih2 _ _ _ _ _ _ _
   | exact outpostref32_Inv.mono _ _ _ _
   | exact outpostref32_plus.mono _ _ _
   | exact outpostref32_product.mono _ _ _ _ _
   | exact outpostref32_quick.mono _ _ _ _ _
   | exact outpostref32_value.mono _ _ _ _ _
   | exact outpostref32_wrong.mono _ _ _ _ _
   | exact LeO.none _
   | refine LeO.ite ?_ ?_
   | refine LeO.bind ?_ (fun _ => ?_)
theorem outpostref32_Through.mono : ∀ a0 a1 a2 a3 k, LeO (outpostref32_Through.f k a0 a1 a2 a3) (outpostref32_Through.f (k + 1) a0 a1 a2 a3) := by
 intro a0 a1 a2 a3 k
 obtain ⟨ih0, ih1, ih2⟩ := outpostref32_Through.mono_l k
 unfold outpostref32_Through.f
 repeat' first
   | (with_reducible exact ih0 _ _ _ _ _ _)
   | (with_reducible exact ih1 _ _ _ _ _)
   | (with_reducible exact ih2 _ _ _ _ _ _ _)
   | (with_reducible exact outpostref32_Inv.mono _ _ _ _)
   | (with_reducible exact outpostref32_plus.mono _ _ _)
   | (with_reducible exact outpostref32_product.mono _ _ _ _ _)
   | (with_reducible exact outpostref32_quick.mono _ _ _ _ _)
   | (with_reducible exact outpostref32_value.mono _ _ _ _ _)
   | (with_reducible exact outpostref32_wrong.mono _ _ _ _ _)
   | (with_reducible exact LeO.refl _)
   | (with_reducible exact LeO.none _)
   | (with_reducible refine LeO.ite ?_ ?_)
   | (with_reducible refine LeO.bind ?_ (fun _ => ?_))
   | exact ih0 _ _ _ _ _ _
   | exact ih1 _ _ _ _ _
   | exact ih2 _ _ _ _ _ _ _
   | exact outpostref32_Inv.mono _ _ _ _
   | exact outpostref32_plus.mono _ _ _
   | exact outpostref32_product.mono _ _ _ _ _
   | exact outpostref32_quick.mono _ _ _ _ _
   | exact outpostref32_value.mono _ _ _ _ _
   | exact outpostref32_wrong.mono _ _ _ _ _
   | exact LeO.none _
   | refine LeO.ite ?_ ?_
   | refine LeO.bind ?_ (fun _ => ?_)
def outpostref32_Through.T11 : Bool × List (List Nat × List Nat) := (true, [([], []), ([], []), ([], []), ([], []), ([2, 3], [2, 3]), ([4], [4]), ([0, 1, 5], [0, 1, 5]), ([6, 6, 0, 1, 2, 3, 4, 5, 6], [6])])
def outpostref32_Through.B11 : List Nat := [0, 0, 0, 0, 12, 28, 63, 127]
theorem outpostref32_Through.tab11 : rtab .any (opsOf Try.f11 11) = outpostref32_Through.T11 := by kernel_rfl
theorem outpostref32_Through.bits11 : waitsOk outpostref32_Through.T11.2 outpostref32_Through.B11 = true := by kernel_rfl
def outpostref32_Through.T15 : Bool × List (List Nat × List Nat) := (true, [([], []), ([], []), ([], []), ([1, 2], [1, 2]), ([3], [3]), ([], []), ([], []), ([], []), ([], []), ([7, 8], [7, 8]), ([9], [9]), ([5, 6, 10], [5, 6, 10]), ([4, 11], [4, 11]), ([], []), ([0, 12, 13, 11], [0, 12, 13]), ([14, 14, 0, 1, 2, 3, 4, 5, 6, 7, 8, 9, 10, 11, 12, 13, 14], [14])])
def outpostref32_Through.B15 : List Nat := [0, 0, 0, 6, 14, 0, 0, 0, 0, 384, 896, 2016, 4094, 0, 16383, 32767]
theorem outpostref32_Through.tab15 : rtab .any (opsOf Try.f11 15) = outpostref32_Through.T15 := by kernel_rfl
theorem outpostref32_Through.bits15 : waitsOk outpostref32_Through.T15.2 outpostref32_Through.B15 = true := by kernel_rfl
def outpostref32_Through.T17 : Bool × List (List Nat × List Nat) := (true, [([], []), ([], []), ([], []), ([], []), ([2, 3], [2, 3]), ([4], [4]), ([5], [5]), ([0, 1, 6], [0, 1, 6]), ([7, 7, 0, 1, 2, 3, 4, 5, 6, 7], [1, 7])])
def outpostref32_Through.B17 : List Nat := [0, 0, 0, 0, 12, 28, 60, 127, 255]
theorem outpostref32_Through.tab17 : rtab .any (opsOf Try.f11 17) = outpostref32_Through.T17 := by kernel_rfl
theorem outpostref32_Through.bits17 : waitsOk outpostref32_Through.T17.2 outpostref32_Through.B17 = true := by kernel_rfl
set_option maxHeartbeats 8000000 in
set_option maxRecDepth 100000 in
theorem outpostref32_Through.calls (k : Nat) (a0_0 : Int) (a0_1 : Int) (A1 : Option Addr) (c1 : Nat) (l1 : List Int) (A2 : Option Addr) (c2 : Nat) (l2 : List Int) (r1 : List Int) (r2 : Int) (w : World) (hr1 : Kd.C (Kd.int .u8) w A1 l1.length l1) (hc1 : l1.length ≤ c1) (hr2 : Kd.C (Kd.int .u8) w A2 l2.length l2) (hc2 : l2.length ≤ c2) (h : outpostref32_Through.f k a0_0 a0_1 l1 l2 = some (r1, r2)) :
  Calls Try.prog 11 #[.agg #[.int .i64 a0_0, .int .u64 a0_1], .slice A1 l1.length c1, .slice A2 l2.length c2] w fun e w' => ∃ v0_ : Value, e = .returned (.tuple #[v0_, .int .i64 r2]) ∧ Kd.R (Kd.int .u8) 5 w' w.heap.size (fun _ => True) v0_ r1 ∧ Below w.heap.size w w' := by
 have hu24 := Try.underlying24
 have HR1 := Aside0.mk hr1
 have HC1 := Aside0.mk hc1
 clear hr1 hc1
 have HR2 := Aside0.mk hr2
 have HC2 := Aside0.mk hc2
 clear hr2 hc2
 have HB := aK (Below.refl w.heap.size w)
 have H : ((outpostref32_wrong.f k a0_0 a0_1 l1 l2).bind fun t385 => (if t385 = 0 then (outpostref32_Through.j0 k l1 l2 t385 ((l1.length : Int) != (l2.length : Int)) a0_0 a0_1) else (outpostref32_Through.j0 k l1 l2 t385 false a0_0 a0_1))) = some (r1, r2) := h
 clear h
 replace H := Option.bind_eq_some_iff.mp H
 obtain ⟨t385, A40, H⟩ := H
 replace H : (if t385 = 0 then (outpostref32_Through.j0 k l1 l2 t385 ((l1.length : Int) != (l2.length : Int)) a0_0 a0_1) else (outpostref32_Through.j0 k l1 l2 t385 false a0_0 a0_1)) = some (r1, r2) := H
 have A4 := Aside0.mk A40
 clear A40
 have HC5 := Aside0.mk H
 clear H
 go_enter Try.func11, Try.ntmps11
 go_upto_region 2 with (first | ((with_reducible refine gate_dst (N := 3) rfl ?_); (try (refine gate_guard (by rfl) ?_; dsimp only)); refine box_event ?hg (N := 3) ?hd (cs := #[.int .i64 a0_0, .int .u64 a0_1]) (t := 24) ?hr ?_; (case hd => rfl); (case hg => rfl); (case hr => first | (go_simp; done) | (go_simp; rfl)); intro gb384 hg w6 hbox hb; have n0_ := aK (below_step (mvh HB.out) hb); have n1_ := aK (hbox); have n2_ := aK ((by rw [hg]; exact (below_size (mvh HB.out)) : w.heap.size ≤ gb384)); have n3_ := aK ((by rw [hg]; exact (below_size (mvh HB.out)) : w.heap.size ≤ gb384)); clear HB; have HB := n0_; have BK384 := n1_; have GW384 := n2_; have GE384 := n3_; clear n0_ n1_ n2_ n3_; clear hb hbox hg; obtain ⟨hcz7_0, hcz7_1, hfz7_0, hfz7_1⟩ := cf2 BK384.out) | ((with_reducible refine gate_callee (f := 45) rfl ?_); refine goesL_ (some 19) rfl rfl Try.func45 (by kernel_rfl) rfl #[.agg #[.int .i64 a0_0, .int .u64 a0_1], .slice A1 l1.length c1, .slice A2 l2.length c2] rfl (by (try simp only [List.map_toArray, List.map_cons, List.map_nil]) <;> rfl) ?_; (with_reducible refine (outpostref32_wrong.calls k a0_0 a0_1 _ _ l1 _ _ l2 t385 _ ?side1 ?side2 ?side3 ?side4 A4.out).mono ?_); (case side1 => repeat (first | exact (Kd.C_below HR1.out HB.out) | (with_reducible refine Kd.C_alloc ?_ _) | (with_reducible refine Kd.C_drewN ?_ _) | (with_reducible refine Kd.C_drew ?_))); (case side2 => exact HC1.out); (case side3 => repeat (first | exact (Kd.C_below HR2.out HB.out) | (with_reducible refine Kd.C_alloc ?_ _) | (with_reducible refine Kd.C_drewN ?_ _) | (with_reducible refine Kd.C_drew ?_))); (case side4 => exact HC2.out); rintro e w8 ⟨rfl, hb⟩; refine ⟨_, rfl, ?_⟩; have n0_ := aK (kb BK384.out hb); have n1_ := aK (below_step (by repeat (first | (with_reducible first | exact HB.out | apply hA | apply hN | apply hD | refine below_set ?_ GE384.out) | exact HB.out)) hb); clear BK384 HB; have BK384 := n0_; have HB := n1_; clear n0_ n1_; (try clear hb)))
 (try simp only [Act.put, List.setIfInBounds_toArray, List.set_cons_zero, List.set_cons_succ])
 go_cut [28] (fun v28 wc => ∃ (kq : Nat) (x28_4 : Bool), v28 = .bool x28_4 ∧ Aside0 (outpostref32_Through.j0 kq l1 l2 t385 x28_4 a0_0 a0_1 = some (r1, r2)) ∧ Aside0 (kq ≤ k) ∧ Aside0 (wc.heap[gb384]? = some (.cells #[.int .i64 a0_0, .int .u64 a0_1] 24 (0, 0))) ∧ Aside0 (Below w.heap.size w wc))
 case first =>
  have H := HC5.out
  clear HC5
  by_cases c9 : t385 = 0
  ·rw [if_pos c9] at H
   have c9b0 : (t385 == 0) = true := beq_iff_eq.mpr c9
   have c9b1 : (t385 != 0) = false := bne_eq_false_iff_eq.mpr c9
   clear c9
   (first | rw [c9b0] | (simp only [i64_w, i32_w]; rw [c9b0]) | rw [c9b1] | skip)
   have H' := Aside0.mk H
   clear H
   go_wp2
   go_meet
   case rel => exact ⟨_, (((l1.length : Int) != (l2.length : Int))), (by first | rfl | (simp; done) | (simp [*]; done) | (simp [wrap64]; done)), H', ⟨by first | omega | exact Nat.le_refl _⟩, ⟨mvb BK384.out⟩, ⟨by repeat (first | (with_reducible first | exact HB.out | apply hA | apply hN | apply hD | refine below_set ?_ GE384.out) | exact HB.out)⟩⟩
  ·rw [if_neg c9] at H
   have c9b0 : (t385 == 0) = false := beq_eq_false_iff_ne.mpr c9
   have c9b1 : (t385 != 0) = true := bne_iff_ne.mpr c9
   (first | rw [c9b0] | (simp only [i64_w, i32_w]; rw [c9b0]) | rw [c9b1] | skip)
   have H' := Aside0.mk H
   clear H
   go_wp2
   go_meet
   case rel => exact ⟨_, (false), (by first | rfl | (simp; done) | (simp [*]; done) | (simp [wrap64]; done)), H', ⟨by first | omega | exact Nat.le_refl _⟩, ⟨mvb BK384.out⟩, ⟨by repeat (first | (with_reducible first | exact HB.out | apply hA | apply hN | apply hD | refine below_set ?_ GE384.out) | exact HB.out)⟩⟩
 case rest =>
  clear HC5
  (try clear c1); (try clear c2); (try clear p2); (try clear c4); (try clear p6); (try clear c9); (try clear c9b0); (try clear c9b1); (try clear hcz7_0); (try clear hcz7_1); (try clear hfz7_0); (try clear hfz7_1)
  obtain ⟨kq, x28_4, rfl, HA, HJ4, BK384, HB⟩ := hcut
  cases kq with
  | zero => exact absurd HA.out (by simp [outpostref32_Through.j0])
  | succ kj4 =>
   have H := HA.out
   clear HA
   simp only [outpostref32_Through.j0] at H
   have HC10 := Aside0.mk H
   clear H
   go_upto_if 28 with (fail)
   go_cut [8] (fun v8 wc => ∃ (kq : Nat) (x8_9 : Int), v8 = .int .i64 x8_9 ∧ Aside0 (outpostref32_Through.j1 kq l1 l2 x8_9 a0_0 a0_1 = some (r1, r2)) ∧ Aside0 (kq ≤ kj4) ∧ Aside0 (wc.heap[gb384]? = some (.cells #[.int .i64 a0_0, .int .u64 a0_1] 24 (0, 0))) ∧ Aside0 (Below w.heap.size w wc))
   case first =>
    have H := HC10.out
    clear HC10
    by_cases c11 : x28_4 = true
    ·subst c11
     have H1 : (outpostref32_Through.j1 kj4 l1 l2 5 a0_0 a0_1) = some (r1, r2) := by rw [if_pos rfl] at H; exact H
     clear H
     have H := H1
     clear H1
     have H' := Aside0.mk H
     clear H
     go_wp2
     go_meet
     case rel => exact ⟨_, (5), (by first | rfl | (simp; done) | (simp [*]; done) | (simp [wrap64]; done)), H', ⟨by have := HJ4.out; first | omega | exact Nat.le_refl _⟩, ⟨mvb BK384.out⟩, ⟨by repeat (first | (with_reducible first | exact HB.out | apply hA | apply hN | apply hD | refine below_set ?_ GE384.out) | exact HB.out)⟩⟩
    ·replace c11 := Bool.eq_false_iff.mpr c11
     subst c11
     have H1 : (outpostref32_Through.j1 kj4 l1 l2 t385 a0_0 a0_1) = some (r1, r2) := by rw [if_neg (show ¬ (false = true) by decide)] at H; exact H
     clear H
     have H := H1
     clear H1
     have H' := Aside0.mk H
     clear H
     go_wp2
     go_meet
     case rel => exact ⟨_, (t385), (by first | rfl | (simp; done) | (simp [*]; done) | (simp [wrap64]; done)), H', ⟨by have := HJ4.out; first | omega | exact Nat.le_refl _⟩, ⟨mvb BK384.out⟩, ⟨by repeat (first | (with_reducible first | exact HB.out | apply hA | apply hN | apply hD | refine below_set ?_ GE384.out) | exact HB.out)⟩⟩
   case rest =>
    clear HC10
    (try clear c1); (try clear c2); (try clear p2); (try clear c4); (try clear p6); (try clear c9); (try clear c9b0); (try clear c9b1); (try clear c11); (try clear hcz7_0); (try clear hcz7_1); (try clear hfz7_0); (try clear hfz7_1); (try clear p2); (try clear p6)
    obtain ⟨kq, x8_9, rfl, HA, HJ9, BK384, HB⟩ := hcut
    cases kq with
    | zero => exact absurd HA.out (by simp [outpostref32_Through.j1])
    | succ kj9 =>
     have H := HA.out
     clear HA
     simp only [outpostref32_Through.j1] at H
     by_cases c12 : x8_9 = 0
     ·rw [if_pos c12] at H
      have c12b0 : (x8_9 == 0) = true := beq_iff_eq.mpr c12
      have c12b1 : (x8_9 != 0) = false := bne_eq_false_iff_eq.mpr c12
      clear c12
      obtain ⟨y386, hy386⟩ : ∃ y_ : List Int, y_ = (([1] : List Int)) := ⟨_, rfl⟩
      replace H : (outpostref32_Through.l0 kj9 l1 l2 ([] : List Int) y386 0 a0_0 a0_1) = some (r1, r2) := by first | (rw [hy386]; with_reducible exact H) | (have H2_ := (Option.bind_some _ _).symm.trans H; rw [hy386]; with_reducible exact H2_) | (have H2_ := (Option.bind_some _ _).symm.trans H; with_reducible exact H2_) | with_reducible exact H | (rw [hy386]; exact H) | exact H
      have Ny386 := Aside0.mk hy386
      clear hy386
      have H' := Aside0.mk H
      clear H
      go_wp2_with (first | ((with_reducible refine gate_dst (N := 32) rfl ?_); (try (refine gate_guard (by rfl) ?_; dsimp only)); refine Kd.R_lit (Kd.int .u8) _ 5 ?hg (N := 32) ?hd (xs := ([1] : List Int)) (inner := [.int .u8 1]) (ok := fun _ => True) (okp := fun _ => True) ?hr ?hp (fun _ hk => hk) trivial (Below.refl _ _) (Nat.le_refl _) (by simp) ?_; (case hd => rfl); (case hg => rfl); (case hr => first | (go_simp; done) | (go_simp; rfl)); (case hp => exact (Reps.one (show Kd.M (Kd.int .u8) _ _ _ 1 [.int .u8 1] from rfl) (Reps.none _ _))); intro v387 w13 ho14 hb hg_ hnew_; clear hg_ hnew_; (first | rw [← Ny386.out] at ho14 | (simp only [Int.reduceToNat] at ho14; rw [← Ny386.out] at ho14)); have n0_ := aK (Kd.R_lower ho14 (below_size (by repeat (first | (with_reducible first | exact HB.out | apply hA | apply hN | apply hD | refine below_set ?_ GE384.out) | exact HB.out)))); have n1_ := aK (kb BK384.out hb); have n2_ := aK (below_step (by repeat (first | (with_reducible first | exact HB.out | apply hA | apply hN | apply hD | refine below_set ?_ GE384.out) | exact HB.out)) hb); clear BK384 HB; have HO388 := n0_; have BK384 := n1_; have HB := n2_; clear n0_ n1_ n2_; clear hb ho14))
      go_loopg [9, 10, 11] kj9 (fun kq v9 v10 v11 w' => ∃ (x9_3 : List Int) (x10_3 : List Int) (x11_3 : Int), v11 = .int .i64 x11_3 ∧ Aside0 (outpostref32_Through.l0 kq l1 l2 x9_3 x10_3 x11_3 a0_0 a0_1 = some (r1, r2)) ∧ Aside0 (kq ≤ kj9) ∧ Aside0 (Kd.R (Kd.int .u8) 5 w' w.heap.size (fun k_ => some k_ ≠ (v10 : Value).ownBlock) v9 x9_3) ∧ Aside0 (Kd.R (Kd.int .u8) 5 w' w.heap.size (fun k_ => some k_ ≠ (v9 : Value).ownBlock) v10 x10_3) ∧ Aside0 (w'.heap[gb384]? = some (.cells #[.int .i64 a0_0, .int .u64 a0_1] 24 (0, 0))) ∧ Aside0 (Below w.heap.size w w'))
      case atStart => exact ⟨(([] : List Int)), (y386), (0), (by first | rfl | (simp; done) | (simp [*]; done) | (simp [wrap64]; done)), H', ⟨Nat.le_refl _⟩, ⟨by first | exact Kd.R_nil _ _ _ _ _ | exact Kd.N_nil _ _ _ _ _ | exact Kd.V_nil _ _ _ _ _ | exact Kd.Q_nil _ _ _ _ _ | exact Kd.S_nil _ _ _ _ _⟩, ⟨by (with_reducible repeat (first | apply Kd.R_alloc | apply Kd.R_drewN | apply Kd.R_drew)); exact Kd.R_mono HO388.out (fun _ hk => (by simp [Value.ownBlock]))⟩, ⟨mvb BK384.out⟩, ⟨by repeat (first | (with_reducible first | exact HB.out | apply hA | apply hN | apply hD | refine below_set ?_ GE384.out) | exact HB.out)⟩⟩
      case round =>
       clear H'
       (try clear c1); (try clear c2); (try clear p2); (try clear c4); (try clear p6); (try clear c9); (try clear c9b0); (try clear c9b1); (try clear c11); (try clear c12); (try clear c12b0); (try clear c12b1); (try clear hcz7_0); (try clear hcz7_1); (try clear hfz7_0); (try clear hfz7_1); (try clear p2)
       try clear p6
       obtain ⟨x9_3, x10_3, x11_3, rfl, HA, HK3, HO_9, HO_10, BK384, HB⟩ := hrel
       cases gk with
       | zero => exact absurd HA.out (by simp [outpostref32_Through.l0])
       | succ k3 =>
        have H := HA.out
        clear HA
        simp only [outpostref32_Through.l0] at H
        by_cases c15 : x11_3 < (l1.length : Int)
        ·rw [if_pos c15] at H
         have c15b0 : decide (x11_3 < (l1.length : Int)) = true := decide_eq_true c15
         clear c15
         by_cases c16 : 0 ≤ x11_3
         ·rw [if_pos c16] at H
          have c16b0 : decide (0 ≤ x11_3) = true := decide_eq_true c16
          clear c16
          replace H := Option.bind_eq_some_iff.mp H
          obtain ⟨t390, A170, H⟩ := H
          replace H : (if t390 = 0 then (some (([] : List Int), 3)) else ((outpostref32_Inv.f k3 a0_0 a0_1 t390).bind fun bt391 => (if x11_3 < (l2.length : Int) then ((outpostref32_value.f k3 a0_0 a0_1 x9_3 (rd l1 x11_3)).bind fun t395 => ((outpostref32_quick.f k3 a0_0 a0_1 (Go.bits .xor .u8 (rd l2 x11_3) t395) bt391.1).bind fun t396 => ((outpostref32_product.f k3 a0_0 a0_1 x10_3 (([t396] : List Int))).bind fun t400 => ((outpostref32_plus.f k3 x9_3 t400).bind fun t403 => ((outpostref32_product.f k3 a0_0 a0_1 x10_3 (([1, rd l1 x11_3] : List Int))).bind fun t410 => (outpostref32_Through.l0 k3 l1 l2 t403 t410 (wrap64 (x11_3 + 1)) a0_0 a0_1)))))) else (none)))) = some (r1, r2) := H
          have A17 := Aside0.mk A170
          clear A170
          by_cases c18 : t390 = 0
          ·rw [if_pos c18] at H
           have c18b0 : (t390 == 0) = true := beq_iff_eq.mpr c18
           have c18b1 : (t390 != 0) = false := bne_eq_false_iff_eq.mpr c18
           clear c18
           simp only [Option.some.injEq, Prod.mk.injEq] at H
           obtain ⟨rfl, rfl⟩ := H
           try go_wp2
           have n0_ := aK (Kd.R_drew HO_9.out)
           have n1_ := aK (Kd.R_drew HO_10.out)
           have n2_ := aK (blk_drew BK384.out)
           have n3_ := aK (below_drew1 HB.out)
           clear HO_9 HO_10 BK384 HB
           have HO_9 := n0_
           have HO_10 := n1_
           have BK384 := n2_
           have HB := n3_
           clear n0_ n1_ n2_ n3_
           have p389 : 0 ≤ (x11_3 : Int) := of_decide_eq_true (by first | (with_reducible assumption) | assumption)
           have q389 : x11_3 < (l1.length : Int) := of_decide_eq_true (by first | (with_reducible assumption) | assumption)
           obtain ⟨ad389, e389, hx389_0⟩ := Kd.at_int HR1.out x11_3 p389 q389
           have hw389_0 := hx389_0
           cases e389
           replace hx389_0 := (HB.out.cell (World.block_lt_of_cell? w _ hx389_0)).trans hx389_0
           replace p389 := eq_true p389
           replace q389 := eq_true q389
           obtain ⟨Ao20, co20, eo20⟩ := Kd.R_slice HO_10.out
           (first | subst eo20 | (injection eo20 with f1_ f2_ f3_; have f4_ := f1_.symm; have f5_ := f3_.symm; clear f1_ f2_ f3_; subst f4_; subst f5_))
           refine start_ (n := 8) (S := fun w' => w'.cell? ⟨gb384, 0, none⟩ = some (.int .i64 a0_0) ∧ w'.cell? ⟨gb384, 1, none⟩ = some (.int .u64 a0_1) ∧ w'.cell? (ad389.add (x11_3).toNat) = some (.int .u8 (rd l1 x11_3))) (ds := []) #[false, false, false, false, false, false, false, false] (by kernel_rfl) rfl rfl ⟨(blk_cell BK384.out 0).trans rfl, (blk_cell BK384.out 1).trans rfl, ((HB.out.cell (World.block_lt_of_cell? w _ hw389_0)).trans hw389_0)⟩ (fun hHeld => ?_); refine with_tabW outpostref32_Through.tab11 outpostref32_Through.bits11 (fun HT_ HW_ => ?_)
           generalize wr.drew = w19 at HO_9 HO_10 BK384 HB hx389_0 hHeld ⊢
           refine pure_ (i := 1) (N := some 40) (v := ?_) (a' := ?_) #[false, true, false, false, false, false, false, false] rfl rfl (any_of HT_.out (by kernel_rfl)) (fun _ _ _ h => h) (Or.inl ⟨by rfl, ?_⟩) ?_ ?_
           rotate_left
           ·intro w'
            go_simp
            with_reducible rfl
           rotate_left
           ·simp only [Act.put, List.setIfInBounds_toArray, List.set_cons_zero, List.set_cons_succ, i64_w, i32_w]
            rfl
           refine pure_ (i := 2) (N := some 41) (v := ?_) (a' := ?_) #[false, true, true, false, false, false, false, false] rfl rfl (any_of HT_.out (by kernel_rfl)) (fun _ _ _ h => h) (Or.inl ⟨by rfl, ?_⟩) ?_ ?_
           rotate_left
           ·intro w'
            go_simp
            with_reducible rfl
           rotate_left
           ·simp only [Act.put, List.setIfInBounds_toArray, List.set_cons_zero, List.set_cons_succ, i64_w, i32_w]
            rfl
           refine pure_ (i := 3) (N := some 42) (v := ?_) (a' := ?_) #[false, true, true, true, false, false, false, false] rfl rfl (any_of HT_.out (by kernel_rfl)) (fun _ _ _ h => h) (Or.inl ⟨by rfl, ?_⟩) ?_ ?_
           rotate_left
           ·intro w'
            go_simp
            with_reducible rfl
           rotate_left
           ·simp only [Act.put, List.setIfInBounds_toArray, List.set_cons_zero, List.set_cons_succ, i64_w, i32_w]
            rfl
           refine pure_ (i := 4) (N := some 43) (v := ?_) (a' := ?_) #[false, true, true, true, true, false, false, false] rfl rfl (any_of HT_.out (by kernel_rfl)) (fun _ _ _ h => h) (Or.inl ⟨by rfl, ?_⟩) ?_ ?_
           rotate_left
           ·intro w'
            go_simp
            with_reducible rfl
           rotate_left
           ·simp only [Act.put, List.setIfInBounds_toArray, List.set_cons_zero, List.set_cons_succ, i64_w, i32_w]
            rfl
           refine take_ (i := 0) (N := some 39) (v := ?_) (a' := ?_) #[true, true, true, true, true, false, false, false] rfl rfl (take_ofW HT_.out HW_.out (by kernel_rfl)) (fun _ _ _ h => h) (Or.inl ⟨by rfl, ?_⟩) hHeld ?_ ?_
           rotate_left
           ·rintro w' ⟨s0, s1, s2⟩
            go_simp
            with_reducible rfl
           rotate_left
           ·simp only [Act.put, List.setIfInBounds_toArray, List.set_cons_zero, List.set_cons_succ, i64_w, i32_w]
            rfl
           refine take_ (i := 5) (N := some 44) (v := ?_) (a' := ?_) #[true, true, true, true, true, true, false, false] rfl rfl (take_ofW HT_.out HW_.out (by kernel_rfl)) (fun _ _ _ h => h) (Or.inl ⟨by rfl, ?_⟩) hHeld ?_ ?_
           rotate_left
           ·rintro w' ⟨s0, s1, s2⟩
            go_simp
            with_reducible rfl
           rotate_left
           ·simp only [Act.put, List.setIfInBounds_toArray, List.set_cons_zero, List.set_cons_succ, i64_w, i32_w]
            rfl
           refine one_ (i := 6) (N := some 45) #[true, true, true, true, true, true, true, false] rfl rfl (one_of HT_.out (by kernel_rfl)) (by decide) (fun K hK => ?_)
           refine goes_ Try.func46 (by kernel_rfl) rfl #[.agg #[.int .i64 a0_0, .int .u64 a0_1], .slice Ao20 x10_3.length co20, .int .u8 (rd l1 x11_3)] (by rfl) rfl rfl (by (try simp only [List.map_toArray, List.map_cons, List.map_nil]) <;> rfl) ?_
           with_reducible refine (outpostref32_value.calls k3 a0_0 a0_1 _ _ x10_3 (rd l1 x11_3) t390 _ ?side1 ?side2 A17.out).mono ?_
           (case side1 => repeat (first | exact (Kd.R_reads' HO_10.out).2.2 | (with_reducible refine Kd.C_alloc ?_ _) | (with_reducible refine Kd.C_drewN ?_ _) | (with_reducible refine Kd.C_drew ?_)))
           (case side2 => exact (Kd.R_reads' HO_10.out).2.1)
           rintro e w21 ⟨rfl, hb⟩
           refine ⟨_, rfl, ?_⟩
           have n0_ := aK (Kd.R_below (mvR HO_9.out) hb)
           have n1_ := aK (Kd.R_below (mvR HO_10.out) hb)
           have n2_ := aK (kb BK384.out hb)
           have n3_ := aK (below_step (by repeat (first | (with_reducible first | exact HB.out | apply hA | apply hN | apply hD | refine below_set ?_ GE384.out) | exact HB.out)) hb)
           clear HO_9 HO_10 BK384 HB
           have HO_9 := n0_
           have HO_10 := n1_
           have BK384 := n2_
           have HB := n3_
           clear n0_ n1_ n2_ n3_
           (try clear hb)
           refine hK.out _ _ ⟨(blk_cell BK384.out 0).trans rfl, (blk_cell BK384.out 1).trans rfl, ((HB.out.cell (World.block_lt_of_cell? w _ hw389_0)).trans hw389_0)⟩ (fun hHeld => ?_)
           clear hK K
           refine norm_ (a' := ?_) ?_ ?_
           rotate_left
           ·show Act.put _ (some 45) _ = _
            simp only [Act.put, List.setIfInBounds_toArray, List.set_cons_zero, List.set_cons_succ, i64_w, i32_w]
            rfl
           refine pure_ (i := 7) (N := some 12) (v := ?_) (a' := ?_) #[true, true, true, true, true, true, true, true] rfl rfl (any_of HT_.out (by kernel_rfl)) (fun _ _ _ h => h) (Or.inl ⟨by rfl, ?_⟩) ?_ ?_
           rotate_left
           ·intro w'
            go_simp
            with_reducible rfl
           rotate_left
           ·simp only [Act.put, List.setIfInBounds_toArray, List.set_cons_zero, List.set_cons_succ, i64_w, i32_w]
            rfl
           refine done_ (done_of HT_.out (by kernel_rfl)) ?_
           try go_wp2
           go_ret2
           exact ⟨_, by first | rfl | (simp [errW_none, errW_some] <;> rfl) | (simp [*, errW_none, errW_some] <;> rfl), by first | exact Kd.R_nil _ _ _ _ _ | exact Kd.N_nil _ _ _ _ _ | exact Kd.V_nil _ _ _ _ _ | exact Kd.Q_nil _ _ _ _ _ | exact Kd.S_nil _ _ _ _ _, by repeat (first | (with_reducible first | exact HB.out | apply hA | apply hN | apply hD | refine below_set ?_ GE384.out) | exact HB.out)⟩
          ·rw [if_neg c18] at H
           have c18b0 : (t390 == 0) = false := beq_eq_false_iff_ne.mpr c18
           have c18b1 : (t390 != 0) = true := bne_iff_ne.mpr c18
           replace H := Option.bind_eq_some_iff.mp H
           obtain ⟨⟨t391, t392⟩, A220, H⟩ := H
           replace H : (if x11_3 < (l2.length : Int) then ((outpostref32_value.f k3 a0_0 a0_1 x9_3 (rd l1 x11_3)).bind fun t395 => ((outpostref32_quick.f k3 a0_0 a0_1 (Go.bits .xor .u8 (rd l2 x11_3) t395) t391).bind fun t396 => ((outpostref32_product.f k3 a0_0 a0_1 x10_3 (([t396] : List Int))).bind fun t400 => ((outpostref32_plus.f k3 x9_3 t400).bind fun t403 => ((outpostref32_product.f k3 a0_0 a0_1 x10_3 (([1, rd l1 x11_3] : List Int))).bind fun t410 => (outpostref32_Through.l0 k3 l1 l2 t403 t410 (wrap64 (x11_3 + 1)) a0_0 a0_1)))))) else (none)) = some (r1, r2) := H
           have A22 := Aside0.mk A220
           clear A220
           by_cases c23 : x11_3 < (l2.length : Int)
           ·rw [if_pos c23] at H
            have c23b0 : decide (x11_3 < (l2.length : Int)) = true := decide_eq_true c23
            clear c23
            replace H := Option.bind_eq_some_iff.mp H
            obtain ⟨t395, A240, H⟩ := H
            replace H : ((outpostref32_quick.f k3 a0_0 a0_1 (Go.bits .xor .u8 (rd l2 x11_3) t395) t391).bind fun t396 => ((outpostref32_product.f k3 a0_0 a0_1 x10_3 (([t396] : List Int))).bind fun t400 => ((outpostref32_plus.f k3 x9_3 t400).bind fun t403 => ((outpostref32_product.f k3 a0_0 a0_1 x10_3 (([1, rd l1 x11_3] : List Int))).bind fun t410 => (outpostref32_Through.l0 k3 l1 l2 t403 t410 (wrap64 (x11_3 + 1)) a0_0 a0_1))))) = some (r1, r2) := H
            have A24 := Aside0.mk A240
            clear A240
            replace H := Option.bind_eq_some_iff.mp H
            obtain ⟨t396, A250, H⟩ := H
            replace H : ((outpostref32_product.f k3 a0_0 a0_1 x10_3 (([t396] : List Int))).bind fun t400 => ((outpostref32_plus.f k3 x9_3 t400).bind fun t403 => ((outpostref32_product.f k3 a0_0 a0_1 x10_3 (([1, rd l1 x11_3] : List Int))).bind fun t410 => (outpostref32_Through.l0 k3 l1 l2 t403 t410 (wrap64 (x11_3 + 1)) a0_0 a0_1)))) = some (r1, r2) := H
            have A25 := Aside0.mk A250
            clear A250
            obtain ⟨y397, hy397⟩ : ∃ y_ : List Int, y_ = (([t396] : List Int)) := ⟨_, rfl⟩
            replace H : ((outpostref32_product.f k3 a0_0 a0_1 x10_3 y397).bind fun t400 => ((outpostref32_plus.f k3 x9_3 t400).bind fun t403 => ((outpostref32_product.f k3 a0_0 a0_1 x10_3 (([1, rd l1 x11_3] : List Int))).bind fun t410 => (outpostref32_Through.l0 k3 l1 l2 t403 t410 (wrap64 (x11_3 + 1)) a0_0 a0_1)))) = some (r1, r2) := by first | (rw [hy397]; with_reducible exact H) | (have H2_ := (Option.bind_some _ _).symm.trans H; rw [hy397]; with_reducible exact H2_) | (have H2_ := (Option.bind_some _ _).symm.trans H; with_reducible exact H2_) | with_reducible exact H | (rw [hy397]; exact H) | exact H
            have Ny397 := Aside0.mk hy397
            clear hy397
            replace H := Option.bind_eq_some_iff.mp H
            obtain ⟨t400, A260, H⟩ := H
            replace H : ((outpostref32_plus.f k3 x9_3 t400).bind fun t403 => ((outpostref32_product.f k3 a0_0 a0_1 x10_3 (([1, rd l1 x11_3] : List Int))).bind fun t410 => (outpostref32_Through.l0 k3 l1 l2 t403 t410 (wrap64 (x11_3 + 1)) a0_0 a0_1))) = some (r1, r2) := H
            have A26 := Aside0.mk A260
            clear A260
            replace H := Option.bind_eq_some_iff.mp H
            obtain ⟨t403, A270, H⟩ := H
            replace H : ((outpostref32_product.f k3 a0_0 a0_1 x10_3 (([1, rd l1 x11_3] : List Int))).bind fun t410 => (outpostref32_Through.l0 k3 l1 l2 t403 t410 (wrap64 (x11_3 + 1)) a0_0 a0_1)) = some (r1, r2) := H
            have A27 := Aside0.mk A270
            clear A270
            obtain ⟨y407, hy407⟩ : ∃ y_ : List Int, y_ = (([1, rd l1 x11_3] : List Int)) := ⟨_, rfl⟩
            replace H : ((outpostref32_product.f k3 a0_0 a0_1 x10_3 y407).bind fun t410 => (outpostref32_Through.l0 k3 l1 l2 t403 t410 (wrap64 (x11_3 + 1)) a0_0 a0_1)) = some (r1, r2) := by first | (rw [hy407]; with_reducible exact H) | (have H2_ := (Option.bind_some _ _).symm.trans H; rw [hy407]; with_reducible exact H2_) | (have H2_ := (Option.bind_some _ _).symm.trans H; with_reducible exact H2_) | with_reducible exact H | (rw [hy407]; exact H) | exact H
            have Ny407 := Aside0.mk hy407
            clear hy407
            replace H := Option.bind_eq_some_iff.mp H
            obtain ⟨t410, A280, H⟩ := H
            replace H : (outpostref32_Through.l0 k3 l1 l2 t403 t410 (wrap64 (x11_3 + 1)) a0_0 a0_1) = some (r1, r2) := H
            have A28 := Aside0.mk A280
            clear A280
            have H' := Aside0.mk H
            clear H
            try go_wp2
            have n0_ := aK (Kd.R_drew HO_9.out)
            have n1_ := aK (Kd.R_drew HO_10.out)
            have n2_ := aK (blk_drew BK384.out)
            have n3_ := aK (below_drew1 HB.out)
            clear HO_9 HO_10 BK384 HB
            have HO_9 := n0_
            have HO_10 := n1_
            have BK384 := n2_
            have HB := n3_
            clear n0_ n1_ n2_ n3_
            have p389 : 0 ≤ (x11_3 : Int) := of_decide_eq_true (by first | (with_reducible assumption) | assumption)
            have q389 : x11_3 < (l1.length : Int) := of_decide_eq_true (by first | (with_reducible assumption) | assumption)
            obtain ⟨ad389, e389, hx389_0⟩ := Kd.at_int HR1.out x11_3 p389 q389
            have hw389_0 := hx389_0
            cases e389
            replace hx389_0 := (HB.out.cell (World.block_lt_of_cell? w _ hx389_0)).trans hx389_0
            replace p389 := eq_true p389
            replace q389 := eq_true q389
            obtain ⟨Ao30, co30, eo30⟩ := Kd.R_slice HO_10.out
            (first | subst eo30 | (injection eo30 with f1_ f2_ f3_; have f4_ := f1_.symm; have f5_ := f3_.symm; clear f1_ f2_ f3_; subst f4_; subst f5_))
            refine start_ (n := 8) (S := fun w' => w'.cell? ⟨gb384, 0, none⟩ = some (.int .i64 a0_0) ∧ w'.cell? ⟨gb384, 1, none⟩ = some (.int .u64 a0_1) ∧ w'.cell? (ad389.add (x11_3).toNat) = some (.int .u8 (rd l1 x11_3))) (ds := []) #[false, false, false, false, false, false, false, false] (by kernel_rfl) rfl rfl ⟨(blk_cell BK384.out 0).trans rfl, (blk_cell BK384.out 1).trans rfl, ((HB.out.cell (World.block_lt_of_cell? w _ hw389_0)).trans hw389_0)⟩ (fun hHeld => ?_); refine with_tabW outpostref32_Through.tab11 outpostref32_Through.bits11 (fun HT_ HW_ => ?_)
            generalize wr.drew = w29 at HO_9 HO_10 BK384 HB hx389_0 hHeld ⊢
            refine pure_ (i := 1) (N := some 40) (v := ?_) (a' := ?_) #[false, true, false, false, false, false, false, false] rfl rfl (any_of HT_.out (by kernel_rfl)) (fun _ _ _ h => h) (Or.inl ⟨by rfl, ?_⟩) ?_ ?_
            rotate_left
            ·intro w'
             go_simp
             with_reducible rfl
            rotate_left
            ·simp only [Act.put, List.setIfInBounds_toArray, List.set_cons_zero, List.set_cons_succ, i64_w, i32_w]
             rfl
            refine pure_ (i := 2) (N := some 41) (v := ?_) (a' := ?_) #[false, true, true, false, false, false, false, false] rfl rfl (any_of HT_.out (by kernel_rfl)) (fun _ _ _ h => h) (Or.inl ⟨by rfl, ?_⟩) ?_ ?_
            rotate_left
            ·intro w'
             go_simp
             with_reducible rfl
            rotate_left
            ·simp only [Act.put, List.setIfInBounds_toArray, List.set_cons_zero, List.set_cons_succ, i64_w, i32_w]
             rfl
            refine pure_ (i := 3) (N := some 42) (v := ?_) (a' := ?_) #[false, true, true, true, false, false, false, false] rfl rfl (any_of HT_.out (by kernel_rfl)) (fun _ _ _ h => h) (Or.inl ⟨by rfl, ?_⟩) ?_ ?_
            rotate_left
            ·intro w'
             go_simp
             with_reducible rfl
            rotate_left
            ·simp only [Act.put, List.setIfInBounds_toArray, List.set_cons_zero, List.set_cons_succ, i64_w, i32_w]
             rfl
            refine pure_ (i := 4) (N := some 43) (v := ?_) (a' := ?_) #[false, true, true, true, true, false, false, false] rfl rfl (any_of HT_.out (by kernel_rfl)) (fun _ _ _ h => h) (Or.inl ⟨by rfl, ?_⟩) ?_ ?_
            rotate_left
            ·intro w'
             go_simp
             with_reducible rfl
            rotate_left
            ·simp only [Act.put, List.setIfInBounds_toArray, List.set_cons_zero, List.set_cons_succ, i64_w, i32_w]
             rfl
            refine take_ (i := 0) (N := some 39) (v := ?_) (a' := ?_) #[true, true, true, true, true, false, false, false] rfl rfl (take_ofW HT_.out HW_.out (by kernel_rfl)) (fun _ _ _ h => h) (Or.inl ⟨by rfl, ?_⟩) hHeld ?_ ?_
            rotate_left
            ·rintro w' ⟨s0, s1, s2⟩
             go_simp
             with_reducible rfl
            rotate_left
            ·simp only [Act.put, List.setIfInBounds_toArray, List.set_cons_zero, List.set_cons_succ, i64_w, i32_w]
             rfl
            refine take_ (i := 5) (N := some 44) (v := ?_) (a' := ?_) #[true, true, true, true, true, true, false, false] rfl rfl (take_ofW HT_.out HW_.out (by kernel_rfl)) (fun _ _ _ h => h) (Or.inl ⟨by rfl, ?_⟩) hHeld ?_ ?_
            rotate_left
            ·rintro w' ⟨s0, s1, s2⟩
             go_simp
             with_reducible rfl
            rotate_left
            ·simp only [Act.put, List.setIfInBounds_toArray, List.set_cons_zero, List.set_cons_succ, i64_w, i32_w]
             rfl
            refine one_ (i := 6) (N := some 45) #[true, true, true, true, true, true, true, false] rfl rfl (one_of HT_.out (by kernel_rfl)) (by decide) (fun K hK => ?_)
            refine goes_ Try.func46 (by kernel_rfl) rfl #[.agg #[.int .i64 a0_0, .int .u64 a0_1], .slice Ao30 x10_3.length co30, .int .u8 (rd l1 x11_3)] (by rfl) rfl rfl (by (try simp only [List.map_toArray, List.map_cons, List.map_nil]) <;> rfl) ?_
            with_reducible refine (outpostref32_value.calls k3 a0_0 a0_1 _ _ x10_3 (rd l1 x11_3) t390 _ ?side1 ?side2 A17.out).mono ?_
            (case side1 => repeat (first | exact (Kd.R_reads' HO_10.out).2.2 | (with_reducible refine Kd.C_alloc ?_ _) | (with_reducible refine Kd.C_drewN ?_ _) | (with_reducible refine Kd.C_drew ?_)))
            (case side2 => exact (Kd.R_reads' HO_10.out).2.1)
            rintro e w31 ⟨rfl, hb⟩
            refine ⟨_, rfl, ?_⟩
            have n0_ := aK (Kd.R_below (mvR HO_9.out) hb)
            have n1_ := aK (Kd.R_below (mvR HO_10.out) hb)
            have n2_ := aK (kb BK384.out hb)
            have n3_ := aK (below_step (by repeat (first | (with_reducible first | exact HB.out | apply hA | apply hN | apply hD | refine below_set ?_ GE384.out) | exact HB.out)) hb)
            clear HO_9 HO_10 BK384 HB
            have HO_9 := n0_
            have HO_10 := n1_
            have BK384 := n2_
            have HB := n3_
            clear n0_ n1_ n2_ n3_
            (try clear hb)
            refine hK.out _ _ ⟨(blk_cell BK384.out 0).trans rfl, (blk_cell BK384.out 1).trans rfl, ((HB.out.cell (World.block_lt_of_cell? w _ hw389_0)).trans hw389_0)⟩ (fun hHeld => ?_)
            clear hK K
            refine norm_ (a' := ?_) ?_ ?_
            rotate_left
            ·show Act.put _ (some 45) _ = _
             simp only [Act.put, List.setIfInBounds_toArray, List.set_cons_zero, List.set_cons_succ, i64_w, i32_w]
             rfl
            refine pure_ (i := 7) (N := some 12) (v := ?_) (a' := ?_) #[true, true, true, true, true, true, true, true] rfl rfl (any_of HT_.out (by kernel_rfl)) (fun _ _ _ h => h) (Or.inl ⟨by rfl, ?_⟩) ?_ ?_
            rotate_left
            ·intro w'
             go_simp
             with_reducible rfl
            rotate_left
            ·simp only [Act.put, List.setIfInBounds_toArray, List.set_cons_zero, List.set_cons_succ, i64_w, i32_w]
             rfl
            refine done_ (done_of HT_.out (by kernel_rfl)) ?_
            obtain ⟨hcz32_0, hcz32_1, hfz32_0, hfz32_1⟩ := cf2 BK384.out
            try go_wp2_with (first | ((with_reducible refine gate_callee (f := 47) rfl ?_); refine goesL_ (some 51) rfl rfl Try.func47 (by kernel_rfl) rfl #[.agg #[.int .i64 a0_0, .int .u64 a0_1], .int .u8 t390] rfl (by (try simp only [List.map_toArray, List.map_cons, List.map_nil]) <;> rfl) ?_; (with_reducible refine (outpostref32_Inv.calls k3 a0_0 a0_1 t390 t391 t392 _ A22.out).mono ?_); rintro e w33 ⟨rfl, hb⟩; refine ⟨_, rfl, ?_⟩; have n0_ := aK (Kd.R_below (mvR HO_9.out) hb); have n1_ := aK (Kd.R_below (mvR HO_10.out) hb); have n2_ := aK (kb BK384.out hb); have n3_ := aK (below_step (by repeat (first | (with_reducible first | exact HB.out | apply hA | apply hN | apply hD | refine below_set ?_ GE384.out) | exact HB.out)) hb); clear HO_9 HO_10 BK384 HB; have HO_9 := n0_; have HO_10 := n1_; have BK384 := n2_; have HB := n3_; clear n0_ n1_ n2_ n3_; (try clear hb)))
            have n0_ := aK (Kd.R_drew HO_9.out)
            have n1_ := aK (Kd.R_drew HO_10.out)
            have n2_ := aK (blk_drew BK384.out)
            have n3_ := aK (below_drew1 HB.out)
            clear HO_9 HO_10 BK384 HB
            have HO_9 := n0_
            have HO_10 := n1_
            have BK384 := n2_
            have HB := n3_
            clear n0_ n1_ n2_ n3_
            have p393 : 0 ≤ (x11_3 : Int) := of_decide_eq_true (by first | (with_reducible assumption) | assumption)
            have q393 : x11_3 < (l2.length : Int) := of_decide_eq_true (by first | (with_reducible assumption) | assumption)
            obtain ⟨ad393, e393, hx393_0⟩ := Kd.at_int HR2.out x11_3 p393 q393
            have hw393_0 := hx393_0
            cases e393
            replace hx393_0 := (HB.out.cell (World.block_lt_of_cell? w _ hx393_0)).trans hx393_0
            replace p393 := eq_true p393
            replace q393 := eq_true q393
            have p394 : 0 ≤ (x11_3 : Int) := of_decide_eq_true (by first | (with_reducible assumption) | assumption)
            have q394 : x11_3 < (l1.length : Int) := of_decide_eq_true (by first | (with_reducible assumption) | assumption)
            obtain ⟨ad394, e394, hx394_0⟩ := Kd.at_int HR1.out x11_3 p394 q394
            have hw394_0 := hx394_0
            obtain rfl : ad389 = ad394 := (by injection e394)
            replace hx394_0 := (HB.out.cell (World.block_lt_of_cell? w _ hx394_0)).trans hx394_0
            replace p394 := eq_true p394
            replace q394 := eq_true q394
            obtain ⟨Ao35, co35, eo35⟩ := Kd.R_slice HO_9.out
            (first | subst eo35 | (injection eo35 with f1_ f2_ f3_; have f4_ := f1_.symm; have f5_ := f3_.symm; clear f1_ f2_ f3_; subst f4_; subst f5_))
            refine start_ (n := 16) (S := fun w' => w'.cell? ⟨gb384, 0, none⟩ = some (.int .i64 a0_0) ∧ w'.cell? ⟨gb384, 1, none⟩ = some (.int .u64 a0_1) ∧ w'.cell? (ad393.add (x11_3).toNat) = some (.int .u8 (rd l2 x11_3)) ∧ w'.cell? (ad389.add (x11_3).toNat) = some (.int .u8 (rd l1 x11_3))) (ds := []) #[false, false, false, false, false, false, false, false, false, false, false, false, false, false, false, false] (by kernel_rfl) rfl rfl ⟨(blk_cell BK384.out 0).trans rfl, (blk_cell BK384.out 1).trans rfl, ((HB.out.cell (World.block_lt_of_cell? w _ hw393_0)).trans hw393_0), ((HB.out.cell (World.block_lt_of_cell? w _ hw394_0)).trans hw394_0)⟩ (fun hHeld => ?_); refine with_tabW outpostref32_Through.tab15 outpostref32_Through.bits15 (fun HT_ HW_ => ?_)
            generalize w33.drew = w34 at HO_9 HO_10 BK384 HB hx393_0 hx394_0 hHeld ⊢
            refine pure_ (i := 1) (N := some 55) (v := ?_) (a' := ?_) #[false, true, false, false, false, false, false, false, false, false, false, false, false, false, false, false] rfl rfl (any_of HT_.out (by kernel_rfl)) (fun _ _ _ h => h) (Or.inl ⟨by rfl, ?_⟩) ?_ ?_
            rotate_left
            ·intro w'
             go_simp
             with_reducible rfl
            rotate_left
            ·simp only [Act.put, List.setIfInBounds_toArray, List.set_cons_zero, List.set_cons_succ, i64_w, i32_w]
             rfl
            refine pure_ (i := 2) (N := some 56) (v := ?_) (a' := ?_) #[false, true, true, false, false, false, false, false, false, false, false, false, false, false, false, false] rfl rfl (any_of HT_.out (by kernel_rfl)) (fun _ _ _ h => h) (Or.inl ⟨by rfl, ?_⟩) ?_ ?_
            rotate_left
            ·intro w'
             go_simp
             with_reducible rfl
            rotate_left
            ·simp only [Act.put, List.setIfInBounds_toArray, List.set_cons_zero, List.set_cons_succ, i64_w, i32_w]
             rfl
            refine pure_ (i := 3) (N := some 57) (v := ?_) (a' := ?_) #[false, true, true, true, false, false, false, false, false, false, false, false, false, false, false, false] rfl rfl (any_of HT_.out (by kernel_rfl)) (fun _ _ _ h => h) (Or.inl ⟨by rfl, ?_⟩) ?_ ?_
            rotate_left
            ·intro w'
             go_simp
             with_reducible rfl
            rotate_left
            ·simp only [Act.put, List.setIfInBounds_toArray, List.set_cons_zero, List.set_cons_succ, i64_w, i32_w]
             rfl
            refine pure_ (i := 6) (N := some 60) (v := ?_) (a' := ?_) #[false, true, true, true, false, false, true, false, false, false, false, false, false, false, false, false] rfl rfl (any_of HT_.out (by kernel_rfl)) (fun _ _ _ h => h) (Or.inl ⟨by rfl, ?_⟩) ?_ ?_
            rotate_left
            ·intro w'
             go_simp
             with_reducible rfl
            rotate_left
            ·simp only [Act.put, List.setIfInBounds_toArray, List.set_cons_zero, List.set_cons_succ, i64_w, i32_w]
             rfl
            refine pure_ (i := 7) (N := some 61) (v := ?_) (a' := ?_) #[false, true, true, true, false, false, true, true, false, false, false, false, false, false, false, false] rfl rfl (any_of HT_.out (by kernel_rfl)) (fun _ _ _ h => h) (Or.inl ⟨by rfl, ?_⟩) ?_ ?_
            rotate_left
            ·intro w'
             go_simp
             with_reducible rfl
            rotate_left
            ·simp only [Act.put, List.setIfInBounds_toArray, List.set_cons_zero, List.set_cons_succ, i64_w, i32_w]
             rfl
            refine pure_ (i := 8) (N := some 62) (v := ?_) (a' := ?_) #[false, true, true, true, false, false, true, true, true, false, false, false, false, false, false, false] rfl rfl (any_of HT_.out (by kernel_rfl)) (fun _ _ _ h => h) (Or.inl ⟨by rfl, ?_⟩) ?_ ?_
            rotate_left
            ·intro w'
             go_simp
             with_reducible rfl
            rotate_left
            ·simp only [Act.put, List.setIfInBounds_toArray, List.set_cons_zero, List.set_cons_succ, i64_w, i32_w]
             rfl
            refine pure_ (i := 9) (N := some 63) (v := ?_) (a' := ?_) #[false, true, true, true, false, false, true, true, true, true, false, false, false, false, false, false] rfl rfl (any_of HT_.out (by kernel_rfl)) (fun _ _ _ h => h) (Or.inl ⟨by rfl, ?_⟩) ?_ ?_
            rotate_left
            ·intro w'
             go_simp
             with_reducible rfl
            rotate_left
            ·simp only [Act.put, List.setIfInBounds_toArray, List.set_cons_zero, List.set_cons_succ, i64_w, i32_w]
             rfl
            refine pure_ (i := 13) (N := some 67) (v := ?_) (a' := ?_) #[false, true, true, true, false, false, true, true, true, true, false, false, false, true, false, false] rfl rfl (any_of HT_.out (by kernel_rfl)) (fun _ _ _ h => h) (Or.inl ⟨by rfl, ?_⟩) ?_ ?_
            rotate_left
            ·intro w'
             go_simp
             with_reducible rfl
            rotate_left
            ·simp only [Act.put, List.setIfInBounds_toArray, List.set_cons_zero, List.set_cons_succ, i64_w, i32_w]
             rfl
            refine take_ (i := 0) (N := some 54) (v := ?_) (a' := ?_) #[true, true, true, true, false, false, true, true, true, true, false, false, false, true, false, false] rfl rfl (take_ofW HT_.out HW_.out (by kernel_rfl)) (fun _ _ _ h => h) (Or.inl ⟨by rfl, ?_⟩) hHeld ?_ ?_
            rotate_left
            ·rintro w' ⟨s0, s1, s2, s3⟩
             go_simp
             with_reducible rfl
            rotate_left
            ·simp only [Act.put, List.setIfInBounds_toArray, List.set_cons_zero, List.set_cons_succ, i64_w, i32_w]
             rfl
            refine take_ (i := 4) (N := some 58) (v := ?_) (a' := ?_) #[true, true, true, true, true, false, true, true, true, true, false, false, false, true, false, false] rfl rfl (take_ofW HT_.out HW_.out (by kernel_rfl)) (fun _ _ _ h => h) (Or.inl ⟨by rfl, ?_⟩) hHeld ?_ ?_
            rotate_left
            ·rintro w' ⟨s0, s1, s2, s3⟩
             go_simp
             with_reducible rfl
            rotate_left
            ·simp only [Act.put, List.setIfInBounds_toArray, List.set_cons_zero, List.set_cons_succ, i64_w, i32_w]
             rfl
            refine take_ (i := 5) (N := some 59) (v := ?_) (a' := ?_) #[true, true, true, true, true, true, true, true, true, true, false, false, false, true, false, false] rfl rfl (take_ofW HT_.out HW_.out (by kernel_rfl)) (fun _ _ _ h => h) (Or.inl ⟨by rfl, ?_⟩) hHeld ?_ ?_
            rotate_left
            ·rintro w' ⟨s0, s1, s2, s3⟩
             go_simp
             with_reducible rfl
            rotate_left
            ·simp only [Act.put, List.setIfInBounds_toArray, List.set_cons_zero, List.set_cons_succ, i64_w, i32_w]
             rfl
            refine take_ (i := 10) (N := some 64) (v := ?_) (a' := ?_) #[true, true, true, true, true, true, true, true, true, true, true, false, false, true, false, false] rfl rfl (take_ofW HT_.out HW_.out (by kernel_rfl)) (fun _ _ _ h => h) (Or.inl ⟨by rfl, ?_⟩) hHeld ?_ ?_
            rotate_left
            ·rintro w' ⟨s0, s1, s2, s3⟩
             go_simp
             with_reducible rfl
            rotate_left
            ·simp only [Act.put, List.setIfInBounds_toArray, List.set_cons_zero, List.set_cons_succ, i64_w, i32_w]
             rfl
            refine one_ (i := 11) (N := some 65) #[true, true, true, true, true, true, true, true, true, true, true, true, false, true, false, false] rfl rfl (one_of HT_.out (by kernel_rfl)) (by decide) (fun K hK => ?_)
            refine goes_ Try.func46 (by kernel_rfl) rfl #[.agg #[.int .i64 a0_0, .int .u64 a0_1], .slice Ao35 x9_3.length co35, .int .u8 (rd l1 x11_3)] (by rfl) rfl rfl (by (try simp only [List.map_toArray, List.map_cons, List.map_nil]) <;> rfl) ?_
            with_reducible refine (outpostref32_value.calls k3 a0_0 a0_1 _ _ x9_3 (rd l1 x11_3) t395 _ ?side1 ?side2 A24.out).mono ?_
            (case side1 => repeat (first | exact (Kd.R_reads' HO_9.out).2.2 | (with_reducible refine Kd.C_alloc ?_ _) | (with_reducible refine Kd.C_drewN ?_ _) | (with_reducible refine Kd.C_drew ?_)))
            (case side2 => exact (Kd.R_reads' HO_9.out).2.1)
            rintro e w36 ⟨rfl, hb⟩
            refine ⟨_, rfl, ?_⟩
            have n0_ := aK (Kd.R_below (mvR HO_9.out) hb)
            have n1_ := aK (Kd.R_below (mvR HO_10.out) hb)
            have n2_ := aK (kb BK384.out hb)
            have n3_ := aK (below_step (by repeat (first | (with_reducible first | exact HB.out | apply hA | apply hN | apply hD | refine below_set ?_ GE384.out) | exact HB.out)) hb)
            clear HO_9 HO_10 BK384 HB
            have HO_9 := n0_
            have HO_10 := n1_
            have BK384 := n2_
            have HB := n3_
            clear n0_ n1_ n2_ n3_
            (try clear hb)
            refine hK.out _ _ ⟨(blk_cell BK384.out 0).trans rfl, (blk_cell BK384.out 1).trans rfl, ((HB.out.cell (World.block_lt_of_cell? w _ hw393_0)).trans hw393_0), ((HB.out.cell (World.block_lt_of_cell? w _ hw394_0)).trans hw394_0)⟩ (fun hHeld => ?_)
            clear hK K
            refine norm_ (a' := ?_) ?_ ?_
            rotate_left
            ·show Act.put _ (some 65) _ = _
             simp only [Act.put, List.setIfInBounds_toArray, List.set_cons_zero, List.set_cons_succ, i64_w, i32_w]
             rfl
            refine pure_ (i := 12) (N := some 66) (v := ?_) (a' := ?_) #[true, true, true, true, true, true, true, true, true, true, true, true, true, true, false, false] rfl rfl (any_of HT_.out (by kernel_rfl)) (fun _ _ _ h => h) (Or.inl ⟨by rfl, ?_⟩) ?_ ?_
            rotate_left
            ·intro w'
             go_simp
             with_reducible rfl
            rotate_left
            ·simp only [Act.put, List.setIfInBounds_toArray, List.set_cons_zero, List.set_cons_succ, i64_w, i32_w]
             rfl
            refine one_ (i := 14) (N := some 68) #[true, true, true, true, true, true, true, true, true, true, true, true, true, true, true, false] rfl rfl (one_of HT_.out (by kernel_rfl)) (by decide) (fun K hK => ?_)
            refine goes_ Try.func48 (by kernel_rfl) rfl #[.agg #[.int .i64 a0_0, .int .u64 a0_1], .int .u8 (Go.bits .xor .u8 (rd l2 x11_3) t395), .int .u8 t391] (by rfl) rfl rfl (by (try simp only [List.map_toArray, List.map_cons, List.map_nil]) <;> rfl) ?_
            with_reducible refine (outpostref32_quick.calls k3 a0_0 a0_1 (Go.bits .xor .u8 (rd l2 x11_3) t395) t391 t396 _ A25.out).mono ?_
            rintro e w37 ⟨rfl, hb⟩
            refine ⟨_, rfl, ?_⟩
            have n0_ := aK (Kd.R_below (mvR HO_9.out) hb)
            have n1_ := aK (Kd.R_below (mvR HO_10.out) hb)
            have n2_ := aK (kb BK384.out hb)
            have n3_ := aK (below_step (by repeat (first | (with_reducible first | exact HB.out | apply hA | apply hN | apply hD | refine below_set ?_ GE384.out) | exact HB.out)) hb)
            clear HO_9 HO_10 BK384 HB
            have HO_9 := n0_
            have HO_10 := n1_
            have BK384 := n2_
            have HB := n3_
            clear n0_ n1_ n2_ n3_
            (try clear hb)
            refine hK.out _ _ ⟨(blk_cell BK384.out 0).trans rfl, (blk_cell BK384.out 1).trans rfl, ((HB.out.cell (World.block_lt_of_cell? w _ hw393_0)).trans hw393_0), ((HB.out.cell (World.block_lt_of_cell? w _ hw394_0)).trans hw394_0)⟩ (fun hHeld => ?_)
            clear hK K
            refine norm_ (a' := ?_) ?_ ?_
            rotate_left
            ·show Act.put _ (some 68) _ = _
             simp only [Act.put, List.setIfInBounds_toArray, List.set_cons_zero, List.set_cons_succ, i64_w, i32_w]
             rfl
            refine pure_ (i := 15) (N := some 15) (v := ?_) (a' := ?_) #[true, true, true, true, true, true, true, true, true, true, true, true, true, true, true, true] rfl rfl (any_of HT_.out (by kernel_rfl)) (fun _ _ _ h => h) (Or.inl ⟨by rfl, ?_⟩) ?_ ?_
            rotate_left
            ·intro w'
             go_simp
             with_reducible rfl
            rotate_left
            ·simp only [Act.put, List.setIfInBounds_toArray, List.set_cons_zero, List.set_cons_succ, i64_w, i32_w]
             rfl
            refine done_ (done_of HT_.out (by kernel_rfl)) ?_
            obtain ⟨hcz38_0, hcz38_1, hfz38_0, hfz38_1⟩ := cf2 BK384.out
            try go_wp2_with (first | ((with_reducible refine gate_dst (N := 73) rfl ?_); (try (refine gate_guard (by rfl) ?_; dsimp only)); refine Kd.R_lit (Kd.int .u8) _ 5 ?hg (N := 73) ?hd (xs := ([t396] : List Int)) (inner := [.int .u8 t396]) (ok := fun _ => True) (okp := fun _ => True) ?hr ?hp (fun _ hk => hk) trivial (Below.refl _ _) (Nat.le_refl _) (by simp) ?_; (case hd => rfl); (case hg => rfl); (case hr => first | (go_simp; done) | (go_simp; rfl)); (case hp => exact (Reps.one (show Kd.M (Kd.int .u8) _ _ _ t396 [.int .u8 t396] from rfl) (Reps.none _ _))); intro v398 w39 ho40 hb hg_ hnew_; clear hg_ hnew_; (first | rw [← Ny397.out] at ho40 | (simp only [Int.reduceToNat] at ho40; rw [← Ny397.out] at ho40)); have n0_ := aK (Kd.R_elder' (mvR HO_9.out) (Kd.R_base ho40) hb); have n1_ := aK (Kd.R_elder' (mvR HO_10.out) (Kd.R_base ho40) hb); have n2_ := aK (Kd.R_lower (Kd.R_new' (Kd.R_new' ho40 (Kd.R_lt (mvR HO_9.out))) (Kd.R_lt (mvR HO_10.out))) (below_size (by repeat (first | (with_reducible first | exact HB.out | apply hA | apply hN | apply hD | refine below_set ?_ GE384.out) | exact HB.out)))); have n3_ := aK (kb BK384.out hb); have n4_ := aK (below_step (by repeat (first | (with_reducible first | exact HB.out | apply hA | apply hN | apply hD | refine below_set ?_ GE384.out) | exact HB.out)) hb); clear HO_9 HO_10 BK384 HB; have HO_9 := n0_; have HO_10 := n1_; have HO399 := n2_; have BK384 := n3_; have HB := n4_; clear n0_ n1_ n2_ n3_ n4_; clear hb ho40; obtain ⟨Ao41, co41, eo41⟩ := Kd.R_slice HO399.out; subst eo41) | ((with_reducible refine gate_callee (f := 50) rfl ?_); refine goesL_ (some 74) rfl rfl Try.func50 (by kernel_rfl) rfl #[.agg #[.int .i64 a0_0, .int .u64 a0_1], .slice Ao30 x10_3.length co30, .slice Ao41 y397.length co41] rfl (by (try simp only [List.map_toArray, List.map_cons, List.map_nil]) <;> rfl) ?_; (with_reducible refine (outpostref32_product.calls k3 a0_0 a0_1 _ _ x10_3 _ _ y397 t400 _ ?side1 ?side2 ?side3 ?side4 A26.out).mono ?_); (case side1 => repeat (first | exact (Kd.R_reads' HO_10.out).2.2 | (with_reducible refine Kd.C_alloc ?_ _) | (with_reducible refine Kd.C_drewN ?_ _) | (with_reducible refine Kd.C_drew ?_))); (case side2 => exact (Kd.R_reads' HO_10.out).2.1); (case side3 => repeat (first | exact (Kd.R_reads' HO399.out).2.2 | (with_reducible refine Kd.C_alloc ?_ _) | (with_reducible refine Kd.C_drewN ?_ _) | (with_reducible refine Kd.C_drew ?_))); (case side4 => exact (Kd.R_reads' HO399.out).2.1); rintro e w42 ⟨v401, rfl, ho0, hb⟩; refine ⟨_, rfl, ?_⟩; have n0_ := aK (Kd.R_elder' (mvR HO_9.out) (Kd.R_base ho0) hb); have n1_ := aK (Kd.R_elder' (mvR HO_10.out) (Kd.R_base ho0) hb); have n2_ := aK (Kd.R_elder' (mvR HO399.out) (Kd.R_base ho0) hb); have n3_ := aK (Kd.R_lower (Kd.R_new' (Kd.R_new' (Kd.R_new' ho0 (Kd.R_lt (mvR HO_9.out))) (Kd.R_lt (mvR HO_10.out))) (Kd.R_lt (mvR HO399.out))) (below_size (by repeat (first | (with_reducible first | exact HB.out | apply hA | apply hN | apply hD | refine below_set ?_ GE384.out) | exact HB.out)))); have n4_ := aK (kb BK384.out hb); have n5_ := aK (below_step (by repeat (first | (with_reducible first | exact HB.out | apply hA | apply hN | apply hD | refine below_set ?_ GE384.out) | exact HB.out)) hb); clear HO_9 HO_10 HO399 BK384 HB; have HO_9 := n0_; have HO_10 := n1_; have HO399 := n2_; have HO402 := n3_; have BK384 := n4_; have HB := n5_; clear n0_ n1_ n2_ n3_ n4_ n5_; (try clear hb); (try clear ho0); obtain ⟨Ao43, co43, eo43⟩ := Kd.R_slice HO402.out; subst eo43) | ((with_reducible refine gate_callee (f := 49) rfl ?_); refine goesL_ (some 75) rfl rfl Try.func49 (by kernel_rfl) rfl #[.slice Ao35 x9_3.length co35, .slice Ao43 t400.length co43] rfl (by (try simp only [List.map_toArray, List.map_cons, List.map_nil]) <;> rfl) ?_; (with_reducible refine (outpostref32_plus.calls k3 _ _ x9_3 _ _ t400 t403 _ ?side1 ?side2 ?side3 ?side4 A27.out).mono ?_); (case side1 => repeat (first | exact (Kd.R_reads' HO_9.out).2.2 | (with_reducible refine Kd.C_alloc ?_ _) | (with_reducible refine Kd.C_drewN ?_ _) | (with_reducible refine Kd.C_drew ?_))); (case side2 => exact (Kd.R_reads' HO_9.out).2.1); (case side3 => repeat (first | exact (Kd.R_reads' HO402.out).2.2 | (with_reducible refine Kd.C_alloc ?_ _) | (with_reducible refine Kd.C_drewN ?_ _) | (with_reducible refine Kd.C_drew ?_))); (case side4 => exact (Kd.R_reads' HO402.out).2.1); rintro e w44 ⟨v404, rfl, ho0, hb⟩; refine ⟨_, rfl, ?_⟩; have n0_ := aK (Kd.R_elder' (mvR HO_9.out) (Kd.R_base ho0) hb); have n1_ := aK (Kd.R_elder' (mvR HO_10.out) (Kd.R_base ho0) hb); have n2_ := aK (Kd.R_elder' (mvR HO399.out) (Kd.R_base ho0) hb); have n3_ := aK (Kd.R_elder' (mvR HO402.out) (Kd.R_base ho0) hb); have n4_ := aK (Kd.R_lower (Kd.R_new' (Kd.R_new' (Kd.R_new' (Kd.R_new' ho0 (Kd.R_lt (mvR HO_9.out))) (Kd.R_lt (mvR HO_10.out))) (Kd.R_lt (mvR HO399.out))) (Kd.R_lt (mvR HO402.out))) (below_size (by repeat (first | (with_reducible first | exact HB.out | apply hA | apply hN | apply hD | refine below_set ?_ GE384.out) | exact HB.out)))); have n5_ := aK (kb BK384.out hb); have n6_ := aK (below_step (by repeat (first | (with_reducible first | exact HB.out | apply hA | apply hN | apply hD | refine below_set ?_ GE384.out) | exact HB.out)) hb); clear HO_9 HO_10 HO399 HO402 BK384 HB; have HO_9 := n0_; have HO_10 := n1_; have HO399 := n2_; have HO402 := n3_; have HO405 := n4_; have BK384 := n5_; have HB := n6_; clear n0_ n1_ n2_ n3_ n4_ n5_ n6_; (try clear hb); (try clear ho0)))
            have n0_ := aK (Kd.R_drew HO_9.out)
            have n1_ := aK (Kd.R_drew HO_10.out)
            have n2_ := aK (Kd.R_drew HO399.out)
            have n3_ := aK (Kd.R_drew HO402.out)
            have n4_ := aK (Kd.R_drew HO405.out)
            have n5_ := aK (blk_drew BK384.out)
            have n6_ := aK (below_drew1 HB.out)
            clear HO_9 HO_10 HO399 HO402 HO405 BK384 HB
            have HO_9 := n0_
            have HO_10 := n1_
            have HO399 := n2_
            have HO402 := n3_
            have HO405 := n4_
            have BK384 := n5_
            have HB := n6_
            clear n0_ n1_ n2_ n3_ n4_ n5_ n6_
            have p406 : 0 ≤ (x11_3 : Int) := of_decide_eq_true (by first | (with_reducible assumption) | assumption)
            have q406 : x11_3 < (l1.length : Int) := of_decide_eq_true (by first | (with_reducible assumption) | assumption)
            obtain ⟨ad406, e406, hx406_0⟩ := Kd.at_int HR1.out x11_3 p406 q406
            have hw406_0 := hx406_0
            obtain rfl : ad389 = ad406 := (by injection e406)
            replace hx406_0 := (HB.out.cell (World.block_lt_of_cell? w _ hx406_0)).trans hx406_0
            replace p406 := eq_true p406
            replace q406 := eq_true q406
            refine start_ (n := 9) (S := fun w' => w'.cell? ⟨gb384, 0, none⟩ = some (.int .i64 a0_0) ∧ w'.cell? ⟨gb384, 1, none⟩ = some (.int .u64 a0_1) ∧ w'.cell? (ad389.add (x11_3).toNat) = some (.int .u8 (rd l1 x11_3))) (ds := []) #[false, false, false, false, false, false, false, false, false] (by kernel_rfl) rfl rfl ⟨(blk_cell BK384.out 0).trans rfl, (blk_cell BK384.out 1).trans rfl, ((HB.out.cell (World.block_lt_of_cell? w _ hw406_0)).trans hw406_0)⟩ (fun hHeld => ?_); refine with_tabW outpostref32_Through.tab17 outpostref32_Through.bits17 (fun HT_ HW_ => ?_)
            generalize w44.drew = w45 at HO_9 HO_10 HO399 HO402 HO405 BK384 HB hx406_0 hHeld ⊢
            refine pure_ (i := 1) (N := some 77) (v := ?_) (a' := ?_) #[false, true, false, false, false, false, false, false, false] rfl rfl (any_of HT_.out (by kernel_rfl)) (fun _ _ _ h => h) (Or.inl ⟨by rfl, ?_⟩) ?_ ?_
            rotate_left
            ·intro w'
             go_simp
             with_reducible rfl
            rotate_left
            ·simp only [Act.put, List.setIfInBounds_toArray, List.set_cons_zero, List.set_cons_succ, i64_w, i32_w]
             rfl
            refine pure_ (i := 2) (N := some 78) (v := ?_) (a' := ?_) #[false, true, true, false, false, false, false, false, false] rfl rfl (any_of HT_.out (by kernel_rfl)) (fun _ _ _ h => h) (Or.inl ⟨by rfl, ?_⟩) ?_ ?_
            rotate_left
            ·intro w'
             go_simp
             with_reducible rfl
            rotate_left
            ·simp only [Act.put, List.setIfInBounds_toArray, List.set_cons_zero, List.set_cons_succ, i64_w, i32_w]
             rfl
            refine pure_ (i := 3) (N := some 79) (v := ?_) (a' := ?_) #[false, true, true, true, false, false, false, false, false] rfl rfl (any_of HT_.out (by kernel_rfl)) (fun _ _ _ h => h) (Or.inl ⟨by rfl, ?_⟩) ?_ ?_
            rotate_left
            ·intro w'
             go_simp
             with_reducible rfl
            rotate_left
            ·simp only [Act.put, List.setIfInBounds_toArray, List.set_cons_zero, List.set_cons_succ, i64_w, i32_w]
             rfl
            refine pure_ (i := 4) (N := some 80) (v := ?_) (a' := ?_) #[false, true, true, true, true, false, false, false, false] rfl rfl (any_of HT_.out (by kernel_rfl)) (fun _ _ _ h => h) (Or.inl ⟨by rfl, ?_⟩) ?_ ?_
            rotate_left
            ·intro w'
             go_simp
             with_reducible rfl
            rotate_left
            ·simp only [Act.put, List.setIfInBounds_toArray, List.set_cons_zero, List.set_cons_succ, i64_w, i32_w]
             rfl
            refine take_ (i := 0) (N := some 76) (v := ?_) (a' := ?_) #[true, true, true, true, true, false, false, false, false] rfl rfl (take_ofW HT_.out HW_.out (by kernel_rfl)) (fun _ _ _ h => h) (Or.inl ⟨by rfl, ?_⟩) hHeld ?_ ?_
            rotate_left
            ·rintro w' ⟨s0, s1, s2⟩
             go_simp
             with_reducible rfl
            rotate_left
            ·simp only [Act.put, List.setIfInBounds_toArray, List.set_cons_zero, List.set_cons_succ, i64_w, i32_w]
             rfl
            refine take_ (i := 5) (N := some 81) (v := ?_) (a' := ?_) #[true, true, true, true, true, true, false, false, false] rfl rfl (take_ofW HT_.out HW_.out (by kernel_rfl)) (fun _ _ _ h => h) (Or.inl ⟨by rfl, ?_⟩) hHeld ?_ ?_
            rotate_left
            ·rintro w' ⟨s0, s1, s2⟩
             go_simp
             with_reducible rfl
            rotate_left
            ·simp only [Act.put, List.setIfInBounds_toArray, List.set_cons_zero, List.set_cons_succ, i64_w, i32_w]
             rfl
            refine one_ (i := 6) (N := some 82) #[true, true, true, true, true, true, true, false, false] rfl rfl (one_of HT_.out (by kernel_rfl)) (by decide) (fun K hK => ?_)
            refine Kd.R_lit_step (Kd.int .u8) _ 5 ?hg (N := 82) ?hd (xs := ([1, rd l1 x11_3] : List Int)) (inner := [.int .u8 1, .int .u8 (rd l1 x11_3)]) (ok := fun _ => True) (okp := fun _ => True) ?hr ?hp (fun _ hk => hk) trivial (Below.refl _ _) (Nat.le_refl _) (by simp) ?_; (case hd => rfl); (case hg => rfl); (case hr => first | (go_simp; done) | (go_simp; rfl)); (case hp => exact (Reps.one (show Kd.M (Kd.int .u8) _ _ _ 1 [.int .u8 1] from rfl) (Reps.one (show Kd.M (Kd.int .u8) _ _ _ (rd l1 x11_3) [.int .u8 (rd l1 x11_3)] from rfl) (Reps.none _ _))))
            intro v408 w46 ho47 hb hg_ hnew_
            clear hg_ hnew_
            (first | rw [← Ny407.out] at ho47 | (simp only [Int.reduceToNat] at ho47; rw [← Ny407.out] at ho47))
            have n0_ := aK (Kd.R_elder' (mvR HO_9.out) (Kd.R_base ho47) hb)
            have n1_ := aK (Kd.R_elder' (mvR HO_10.out) (Kd.R_base ho47) hb)
            have n2_ := aK (Kd.R_elder' (mvR HO399.out) (Kd.R_base ho47) hb)
            have n3_ := aK (Kd.R_elder' (mvR HO402.out) (Kd.R_base ho47) hb)
            have n4_ := aK (Kd.R_elder' (mvR HO405.out) (Kd.R_base ho47) hb)
            have n5_ := aK (Kd.R_lower (Kd.R_new' (Kd.R_new' (Kd.R_new' (Kd.R_new' (Kd.R_new' ho47 (Kd.R_lt (mvR HO_9.out))) (Kd.R_lt (mvR HO_10.out))) (Kd.R_lt (mvR HO399.out))) (Kd.R_lt (mvR HO402.out))) (Kd.R_lt (mvR HO405.out))) (below_size (by repeat (first | (with_reducible first | exact HB.out | apply hA | apply hN | apply hD | refine below_set ?_ GE384.out) | exact HB.out))))
            have n6_ := aK (kb BK384.out hb)
            have n7_ := aK (below_step (by repeat (first | (with_reducible first | exact HB.out | apply hA | apply hN | apply hD | refine below_set ?_ GE384.out) | exact HB.out)) hb)
            clear HO_9 HO_10 HO399 HO402 HO405 BK384 HB
            have HO_9 := n0_
            have HO_10 := n1_
            have HO399 := n2_
            have HO402 := n3_
            have HO405 := n4_
            have HO409 := n5_
            have BK384 := n6_
            have HB := n7_
            clear n0_ n1_ n2_ n3_ n4_ n5_ n6_ n7_ hb ho47
            obtain ⟨Ao48, co48, eo48⟩ := Kd.R_slice HO409.out
            (first | subst eo48 | (injection eo48 with f1_ f2_ f3_; have f4_ := f1_.symm; have f5_ := f3_.symm; clear f1_ f2_ f3_; subst f4_; subst f5_))
            refine hK.out _ _ ⟨(blk_cell BK384.out 0).trans rfl, (blk_cell BK384.out 1).trans rfl, ((HB.out.cell (World.block_lt_of_cell? w _ hw406_0)).trans hw406_0)⟩ (fun hHeld => ?_)
            clear hK K
            refine norm_ (a' := ?_) ?_ ?_
            rotate_left
            ·show Act.put _ (some 82) _ = _
             simp only [Act.put, List.setIfInBounds_toArray, List.set_cons_zero, List.set_cons_succ, i64_w, i32_w]
             rfl
            refine one_ (i := 7) (N := some 83) #[true, true, true, true, true, true, true, true, false] rfl rfl (one_of HT_.out (by kernel_rfl)) (by decide) (fun K hK => ?_)
            refine goes_ Try.func50 (by kernel_rfl) rfl #[.agg #[.int .i64 a0_0, .int .u64 a0_1], .slice Ao30 x10_3.length co30, .slice Ao48 y407.length co48] (by rfl) rfl rfl (by (try simp only [List.map_toArray, List.map_cons, List.map_nil]) <;> rfl) ?_
            with_reducible refine (outpostref32_product.calls k3 a0_0 a0_1 _ _ x10_3 _ _ y407 t410 _ ?side1 ?side2 ?side3 ?side4 A28.out).mono ?_
            (case side1 => repeat (first | exact (Kd.R_reads' HO_10.out).2.2 | (with_reducible refine Kd.C_alloc ?_ _) | (with_reducible refine Kd.C_drewN ?_ _) | (with_reducible refine Kd.C_drew ?_)))
            (case side2 => exact (Kd.R_reads' HO_10.out).2.1)
            (case side3 => repeat (first | exact (Kd.R_reads' HO409.out).2.2 | (with_reducible refine Kd.C_alloc ?_ _) | (with_reducible refine Kd.C_drewN ?_ _) | (with_reducible refine Kd.C_drew ?_)))
            (case side4 => exact (Kd.R_reads' HO409.out).2.1)
            rintro e w49 ⟨v411, rfl, ho0, hb⟩
            refine ⟨_, rfl, ?_⟩
            have n0_ := aK (Kd.R_elder' (mvR HO_9.out) (Kd.R_base ho0) hb)
            have n1_ := aK (Kd.R_elder' (mvR HO_10.out) (Kd.R_base ho0) hb)
            have n2_ := aK (Kd.R_elder' (mvR HO399.out) (Kd.R_base ho0) hb)
            have n3_ := aK (Kd.R_elder' (mvR HO402.out) (Kd.R_base ho0) hb)
            have n4_ := aK (Kd.R_elder' (mvR HO405.out) (Kd.R_base ho0) hb)
            have n5_ := aK (Kd.R_elder' (mvR HO409.out) (Kd.R_base ho0) hb)
            have n6_ := aK (Kd.R_lower (Kd.R_new' (Kd.R_new' (Kd.R_new' (Kd.R_new' (Kd.R_new' (Kd.R_new' ho0 (Kd.R_lt (mvR HO_9.out))) (Kd.R_lt (mvR HO_10.out))) (Kd.R_lt (mvR HO399.out))) (Kd.R_lt (mvR HO402.out))) (Kd.R_lt (mvR HO405.out))) (Kd.R_lt (mvR HO409.out))) (below_size (by repeat (first | (with_reducible first | exact HB.out | apply hA | apply hN | apply hD | refine below_set ?_ GE384.out) | exact HB.out))))
            have n7_ := aK (kb BK384.out hb)
            have n8_ := aK (below_step (by repeat (first | (with_reducible first | exact HB.out | apply hA | apply hN | apply hD | refine below_set ?_ GE384.out) | exact HB.out)) hb)
            clear HO_9 HO_10 HO399 HO402 HO405 HO409 BK384 HB
            have HO_9 := n0_
            have HO_10 := n1_
            have HO399 := n2_
            have HO402 := n3_
            have HO405 := n4_
            have HO409 := n5_
            have HO412 := n6_
            have BK384 := n7_
            have HB := n8_
            clear n0_ n1_ n2_ n3_ n4_ n5_ n6_ n7_ n8_
            (try clear hb); (try clear ho0)
            refine hK.out _ _ ⟨(blk_cell BK384.out 0).trans rfl, (blk_cell BK384.out 1).trans rfl, ((HB.out.cell (World.block_lt_of_cell? w _ hw406_0)).trans hw406_0)⟩ (fun hHeld => ?_)
            clear hK K
            refine norm_ (a' := ?_) ?_ ?_
            rotate_left
            ·show Act.put _ (some 83) _ = _
             simp only [Act.put, List.setIfInBounds_toArray, List.set_cons_zero, List.set_cons_succ, i64_w, i32_w]
             rfl
            refine pure_ (i := 8) (N := some 10) (v := ?_) (a' := ?_) #[true, true, true, true, true, true, true, true, true] rfl rfl (any_of HT_.out (by kernel_rfl)) (fun _ _ _ h => h) (Or.inl ⟨by rfl, ?_⟩) ?_ ?_
            rotate_left
            ·intro w'
             go_simp
             with_reducible rfl
            rotate_left
            ·simp only [Act.put, List.setIfInBounds_toArray, List.set_cons_zero, List.set_cons_succ, i64_w, i32_w]
             rfl
            refine done_ (done_of HT_.out (by kernel_rfl)) ?_
            try go_wp2
            go_roundg k3
            case measure => have := HJ4.out; have := HJ9.out; have := HK3.out; omega
            case rel => exact ⟨(t403), (t410), (wrap64 (x11_3 + 1)), (by first | rfl | (simp; done) | (simp [*]; done) | (simp [wrap64]; done)), H', ⟨by have := HJ4.out; have := HJ9.out; have := HK3.out; omega⟩, ⟨by (with_reducible repeat (first | apply Kd.R_alloc | apply Kd.R_drewN | apply Kd.R_drew)); exact Kd.R_mono HO405.out (fun _ hk => hk.2)⟩, ⟨by (with_reducible repeat (first | apply Kd.R_alloc | apply Kd.R_drewN | apply Kd.R_drew)); exact Kd.R_mono HO412.out (fun _ hk => hk.1.2)⟩, ⟨mvb BK384.out⟩, ⟨by repeat (first | (with_reducible first | exact HB.out | apply hA | apply hN | apply hD | refine below_set ?_ GE384.out) | exact HB.out)⟩⟩
           ·rw [if_neg c23] at H
            exact absurd H (by simp)
         ·rw [if_neg c16] at H
          exact absurd H (by simp)
        ·rw [if_neg c15] at H
         have c15b0 : decide (x11_3 < (l1.length : Int)) = false := decide_eq_false c15
         clear c15
         simp only [Option.some.injEq, Prod.mk.injEq] at H
         obtain ⟨rfl, rfl⟩ := H
         go_wp2
         go_ret2
         exact ⟨_, by first | rfl | (simp [errW_none, errW_some] <;> rfl) | (simp [*, errW_none, errW_some] <;> rfl), by (with_reducible repeat (first | apply Kd.R_alloc | apply Kd.R_drewN | apply Kd.R_drew)); exact Kd.R_mono HO_9.out (fun _ hk => trivial), by repeat (first | (with_reducible first | exact HB.out | apply hA | apply hN | apply hD | refine below_set ?_ GE384.out) | exact HB.out)⟩
     ·rw [if_neg c12] at H
      have c12b0 : (x8_9 == 0) = false := beq_eq_false_iff_ne.mpr c12
      have c12b1 : (x8_9 != 0) = true := bne_iff_ne.mpr c12
      simp only [Option.some.injEq, Prod.mk.injEq] at H
      obtain ⟨rfl, rfl⟩ := H
      go_wp2
      go_ret2
      exact ⟨_, by first | rfl | (simp [errW_none, errW_some] <;> rfl) | (simp [*, errW_none, errW_some] <;> rfl), by first | exact Kd.R_nil _ _ _ _ _ | exact Kd.N_nil _ _ _ _ _ | exact Kd.V_nil _ _ _ _ _ | exact Kd.Q_nil _ _ _ _ _ | exact Kd.S_nil _ _ _ _ _, by repeat (first | (with_reducible first | exact HB.out | apply hA | apply hN | apply hD | refine below_set ?_ GE384.out) | exact HB.out)⟩

end Go.Proofs.Ytjdkamhnbheofaa.P

-- squeezed
