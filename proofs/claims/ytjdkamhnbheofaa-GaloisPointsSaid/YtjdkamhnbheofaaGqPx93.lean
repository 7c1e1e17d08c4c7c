import Derived.Test.YtjdkamhnbheofaaGqPx0
import Derived.Test.YtjdkamhnbheofaaGqPx5
import Derived.Test.YtjdkamhnbheofaaGqPx6
import Derived.Test.YtjdkamhnbheofaaGqPx7
import Derived.Test.YtjdkamhnbheofaaGqPx8
import Derived.Test.YtjdkamhnbheofaaGqPx2
import Derived.Test.YtjdkamhnbheofaaGqPx10
import Derived.Test.YtjdkamhnbheofaaGqPx1
import Derived.Test.YtjdkamhnbheofaaGqPx12
import Derived.Test.YtjdkamhnbheofaaGqPx3
import Derived.Test.YtjdkamhnbheofaaGqPx20
import Derived.Test.YtjdkamhnbheofaaGqPx21
-- written by mk.sh, a program of this session, over the kit's print
namespace Go.Proofs.Ytjdkamhnbheofaa.P
open Go.RowKit Go.Proofs.YtjdkamhnbheofaaW.PrintWords Go.Proofs.YtjdkamhnbheofaaW.PrintLast Go.Proofs.YtjdkamhnbheofaaW.PrintMore
attribute [local go_sem] max2_int min2_int max_two min_two max_three min_three max_four min_four   -- for this text's walks alone
set_option linter.unusedVariables false
set_option linter.unusedSimpArgs false

/-! ### outpostlaw32_GaloisPoints: function 7 -/
mutual
def outpostlaw32_GaloisPoints.j0 : Nat → List Int → List Int → GTab → Bool → Bool → Int → Int → Option (Bool)
 | 0, _, _, _, _, _, _, _ => none
 | k + 1, x1, x2, x7, x9, x35, x341000, x341001 => if x35 = true then (some x9) else ((outpostref32_Size.f x341000 x341001).bind fun t346 => ((outpostlaw32_row.f k x341000 x341001 x1 (wrap64 (t346 - 1))).bind fun t347 => ((outpostref32_Trim.f k t347).bind fun t350 => (outpostlaw32_GaloisPoints.l0 k x2 x7 t350 ([] : List Int) ([] : List Int) 0 x341000 x341001))))
def outpostlaw32_GaloisPoints.l0 : Nat → List Int → GTab → List Int → List Int → List Int → Int → Int → Int → Option (Bool)
 | 0, _, _, _, _, _, _, _, _ => none
 | k + 1, x2, x7, x10, x11, x12, x13, x341000, x341001 => if x13 ≤ (x10.length : Int) then ((galois_Tables_Eval.f k x7 x10 ((x13) % 256)).bind fun bt353 => ((outpostlaw32_num.f bt353.2).bind fun t355 => (if t355 = 0 then (if x11.length < 140737488355328 then (if x12.length < 140737488355328 then (outpostlaw32_GaloisPoints.l0 k x2 x7 x10 (x11 ++ [(x13) % 256]) (x12 ++ [bt353.1]) (wrap64 (x13 + 1)) x341000 x341001) else (none)) else (none)) else (some false)))) else ((galois_Tables_Through.f k x7 x11 x12).bind fun bt362 => ((outpostlaw32_num.f bt362.2).bind fun t366 => (if t366 = 0 then ((outpostlaw32_same.f bt362.1 x10).bind fun t367 => (outpostlaw32_GaloisPoints.j2 k x2 x7 x11 (!t367) x341000 x341001)) else (outpostlaw32_GaloisPoints.j2 k x2 x7 x11 true x341000 x341001))))
def outpostlaw32_GaloisPoints.j2 : Nat → List Int → GTab → List Int → Bool → Int → Int → Option (Bool)
 | 0, _, _, _, _, _, _ => none
 | k + 1, x2, x7, x11, x85, x341000, x341001 => if x85 = true then (some false) else ((outpostlaw32_row.f k x341000 x341001 x2 (x11.length : Int)).bind fun t368 => (if 0 ≤ (t368.length : Int) then (if (t368.length : Int) ≤ (x11.length : Int) then ((galois_Tables_Through.f k x7 (x11.take ((t368.length : Int) : Int).toNat) t368).bind fun bt376 => ((outpostlaw32_num.f bt376.2).bind fun t380 => (if t380 = 0 then (outpostlaw32_GaloisPoints.j3 k x7 x11 t368 bt376.1 (decide ((bt376.1.length : Int) > (t368.length : Int)))) else (outpostlaw32_GaloisPoints.j3 k x7 x11 t368 bt376.1 true)))) else (none)) else (none)))
def outpostlaw32_GaloisPoints.j3 : Nat → GTab → List Int → List Int → List Int → Bool → Option (Bool)
 | 0, _, _, _, _, _ => none
 | k + 1, x7, x11, x18, x19, x110 => if x110 = true then (some false) else (outpostlaw32_GaloisPoints.l1 k x7 x11 x18 x19 0)
def outpostlaw32_GaloisPoints.l1 : Nat → GTab → List Int → List Int → List Int → Int → Option (Bool)
 | 0, _, _, _, _, _ => none
 | k + 1, x7, x11, x18, x19, x21 => if x21 < (x18.length : Int) then (if 0 ≤ x21 then (if x21 < (x11.length : Int) then ((galois_Tables_Eval.f k x7 x19 (rd x11 x21)).bind fun bt382 => ((outpostlaw32_num.f bt382.2).bind fun t384 => (if t384 = 0 then (if bt382.1 = (rd x18 x21) then (outpostlaw32_GaloisPoints.l1 k x7 x11 x18 x19 (wrap64 (x21 + 1))) else (some false)) else (some false)))) else (none)) else (none)) else (some true)
end
def outpostlaw32_GaloisPoints.f (k : Nat) (a0_0 : Int) (a0_1 : Int) (l1 : List Int) (l2 : List Int) : Option (Bool) := (outpostlaw32_made.f k a0_0 a0_1).bind fun bt341 => (if bt341.2.1 = true then (outpostlaw32_GaloisPoints.j0 k l1 l2 bt341.1 bt341.2.2 (!bt341.2.2) a0_0 a0_1) else (outpostlaw32_GaloisPoints.j0 k l1 l2 bt341.1 bt341.2.2 true a0_0 a0_1))
theorem outpostlaw32_GaloisPoints.mono_l : ∀ k, (∀ y0 y1 y2 y3 y4 y5 y6, LeO (outpostlaw32_GaloisPoints.j0 k y0 y1 y2 y3 y4 y5 y6) (outpostlaw32_GaloisPoints.j0 (k + 1) y0 y1 y2 y3 y4 y5 y6)) ∧ (∀ y0 y1 y2 y3 y4 y5 y6 y7, LeO (outpostlaw32_GaloisPoints.l0 k y0 y1 y2 y3 y4 y5 y6 y7) (outpostlaw32_GaloisPoints.l0 (k + 1) y0 y1 y2 y3 y4 y5 y6 y7)) ∧ (∀ y0 y1 y2 y3 y4 y5, LeO (outpostlaw32_GaloisPoints.j2 k y0 y1 y2 y3 y4 y5) (outpostlaw32_GaloisPoints.j2 (k + 1) y0 y1 y2 y3 y4 y5)) ∧ (∀ y0 y1 y2 y3 y4, LeO (outpostlaw32_GaloisPoints.j3 k y0 y1 y2 y3 y4) (outpostlaw32_GaloisPoints.j3 (k + 1) y0 y1 y2 y3 y4)) ∧ (∀ y0 y1 y2 y3 y4, LeO (outpostlaw32_GaloisPoints.l1 k y0 y1 y2 y3 y4) (outpostlaw32_GaloisPoints.l1 (k + 1) y0 y1 y2 y3 y4))
 | 0 => ⟨fun _ _ _ _ _ _ _ r h => by simp [outpostlaw32_GaloisPoints.j0] at h, fun _ _ _ _ _ _ _ _ r h => by simp [outpostlaw32_GaloisPoints.l0] at h, fun _ _ _ _ _ _ r h => by simp [outpostlaw32_GaloisPoints.j2] at h, fun _ _ _ _ _ r h => by simp [outpostlaw32_GaloisPoints.j3] at h, fun _ _ _ _ _ r h => by simp [outpostlaw32_GaloisPoints.l1] at h⟩
 | k + 1 => by
  obtain ⟨ih0, ih1, ih2, ih3, ih4⟩ := outpostlaw32_GaloisPoints.mono_l k
  refine ⟨?_, ?_, ?_, ?_, ?_⟩
  ·intro y0 y1 y2 y3 y4 y5 y6
   unfold outpostlaw32_GaloisPoints.j0
   repeat' first
   | (with_reducible exact ih0 _ _ _ _ _ _ _)
   | (with_reducible exact ih1 _ _ _ _ _ _ _ _)
   | (with_reducible exact ih2 _ _ _ _ _ _)
   | (with_reducible exact ih3 _ _ _ _ _)
   | (with_reducible exact ih4 _ _ _ _ _)
   | (with_reducible exact galois_Tables_Eval.mono _ _ _ _)
   | (with_reducible exact galois_Tables_Through.mono _ _ _ _)
   | (with_reducible exact outpostlaw32_made.mono _ _ _)
   | (with_reducible exact outpostlaw32_row.mono _ _ _ _ _)
   | (with_reducible exact outpostref32_Trim.mono _ _)
   | (with_reducible exact LeO.refl _)
   | (with_reducible exact LeO.none _)
   | (with_reducible refine LeO.ite ?_ ?_)
   | (with_reducible refine LeO.bind ?_ (fun _ => ?_))
   | exact ih0 _ _ _ _ _ _ _
   | exact ih1 _ _ _ _ _ _ _ _
   | exact ih2 _ _ _ _ _ _
   | exact ih3 _ _ _ _ _
   | exact ih4 _ _ _ _ _
   | exact galois_Tables_Eval.mono _ _ _ _
   | exact galois_Tables_Through.mono _ _ _ _
   | exact outpostlaw32_made.mono _ _ _
   | exact outpostlaw32_row.mono _ _ _ _ _
   | exact outpostref32_Trim.mono _ _
   | exact LeO.none _
   | refine LeO.ite ?_ ?_
   | refine LeO.bind ?_ (fun _ => ?_)
  ·intro y0 y1 y2 y3 y4 y5 y6 y7
   unfold outpostlaw32_GaloisPoints.l0
   repeat' first
   | (with_reducible exact ih0 _ _ _ _ _ _ _)
   | (with_reducible exact ih1 _ _ _ _ _ _ _ _)
   | (with_reducible exact ih2 _ _ _ _ _ _)
   | (with_reducible exact ih3 _ _ _ _ _)
   | (with_reducible exact ih4 _ _ _ _ _)
   | (with_reducible exact galois_Tables_Eval.mono _ _ _ _)
   | (with_reducible exact galois_Tables_Through.mono _ _ _ _)
   | (with_reducible exact outpostlaw32_made.mono _ _ _)
   | (with_reducible exact outpostlaw32_row.mono _ _ _ _ _)
   | (with_reducible exact outpostref32_Trim.mono _ _)
   | (with_reducible exact LeO.refl _)
   | (with_reducible exact LeO.none _)
   | (with_reducible refine LeO.ite ?_ ?_)
   | (with_reducible refine LeO.bind ?_ (fun _ => ?_))
   | exact ih0 _ _ _ _ _ _ _
   | exact ih1 _ _ _ _ _ _ _ _
   | exact ih2 _ _ _ _ _ _
   | exact ih3 _ _ _ _ _
   | exact ih4 _ _ _ _ _
   | exact galois_Tables_Eval.mono _ _ _ _
   | exact galois_Tables_Through.mono _ _ _ _
   | exact outpostlaw32_made.mono _ _ _
   | exact outpostlaw32_row.mono _ _ _ _ _
   | exact outpostref32_Trim.mono _ _
   | exact LeO.none _
   | refine LeO.ite ?_ ?_
   | refine LeO.bind ?_ (fun _ => ?_)
  ·intro y0 y1 y2 y3 y4 y5
   unfold outpostlaw32_GaloisPoints.j2
   repeat' first
   | (with_reducible exact ih0 _ _ _ _ _ _ _)
   | (with_reducible exact ih1 _ _ _ _ _ _ _ _)
   | (with_reducible exact ih2 _ _ _ _ _ _)
   | (with_reducible exact ih3 _ _ _ _ _)
   | (with_reducible exact ih4 _ _ _ _ _)
   | (with_reducible exact galois_Tables_Eval.mono _ _ _ _)
   | (with_reducible exact galois_Tables_Through.mono _ _ _ _)
   | (with_reducible exact outpostlaw32_made.mono _ _ _)
   | (with_reducible exact outpostlaw32_row.mono _ _ _ _ _)
   | (with_reducible exact outpostref32_Trim.mono _ _)
   | (with_reducible exact LeO.refl _)
   | (with_reducible exact LeO.none _)
   | (with_reducible refine LeO.ite ?_ ?_)
   | (with_reducible refine LeO.bind ?_ (fun _ => ?_))
   | exact ih0 _ _ _ _ _ _ _
   | exact ih1 _ _ _ _ _ _ _ _
   | exact ih2 _ _ _ _ _ _
   | exact ih3 _ _ _ _ _
   | exact ih4 _ _ _ _ _
   | exact galois_Tables_Eval.mono _ _ _ _
   | exact galois_Tables_Through.mono _ _ _ _
   | exact outpostlaw32_made.mono _ _ _
   | exact outpostlaw32_row.mono _ _ _ _ _
   | exact outpostref32_Trim.mono _ _
   | exact LeO.none _
   | refine LeO.ite ?_ ?_
   | refine LeO.bind ?_ (fun _ => ?_)
  ·intro y0 y1 y2 y3 y4
   unfold outpostlaw32_GaloisPoints.j3
   repeat' first
   | (with_reducible exact ih0 _ _ _ _ _ _ _)
   | (with_reducible exact ih1 _ _ _ _ _ _ _ _)
   | (with_reducible exact ih2 _ _ _ _ _ _)
   | (with_reducible exact ih3 _ _ _ _ _)
   | (with_reducible exact ih4 _ _ _ _ _)
   | (with_reducible exact galois_Tables_Eval.mono _ _ _ _)
   | (with_reducible exact galois_Tables_Through.mono _ _ _ _)
   | (with_reducible exact outpostlaw32_made.mono _ _ _)
   | (with_reducible exact outpostlaw32_row.mono _ _ _ _ _)
   | (with_reducible exact outpostref32_Trim.mono _ _)
   | (with_reducible exact LeO.refl _)
   | (with_reducible exact LeO.none _)
   | (with_reducible refine LeO.ite ?_ ?_)
   | (with_reducible refine LeO.bind ?_ (fun _ => ?_))
   | exact ih0 _ _ _ _ _ _ _
   | exact ih1 _ _ _ _ _ _ _ _
   | exact ih2 _ _ _ _ _ _
   | exact ih3 _ _ _ _ _
   | exact ih4 _ _ _ _ _
   | exact galois_Tables_Eval.mono _ _ _ _
   | exact galois_Tables_Through.mono _ _ _ _
   | exact outpostlaw32_made.mono _ _ _
   | exact outpostlaw32_row.mono _ _ _ _ _
   | exact outpostref32_Trim.mono _ _
   | exact LeO.none _
   | refine LeO.ite ?_ ?_
   | refine LeO.bind ?_ (fun _ => ?_)
  ·intro y0 y1 y2 y3 y4
   unfold outpostlaw32_GaloisPoints.l1
   repeat' first
   | (with_reducible exact ih0 _ _ _ _ _ _ _)
   | (with_reducible exact ih1 _ _ _ _ _ _ _ _)
   | (with_reducible exact ih2 _ _ _ _ _ _)
   | (with_reducible exact ih3 _ _ _ _ _)
   | (with_reducible exact ih4 _ _ _ _ _)
   | (with_reducible exact galois_Tables_Eval.mono _ _ _ _)
   | (with_reducible exact galois_Tables_Through.mono _ _ _ _)
   | (with_reducible exact outpostlaw32_made.mono _ _ _)
   | (with_reducible exact outpostlaw32_row.mono _ _ _ _ _)
   | (with_reducible exact outpostref32_Trim.mono _ _)
   | (with_reducible exact LeO.refl _)
   | (with_reducible exact LeO.none _)
   | (with_reducible refine LeO.ite ?_ ?_)
   | (with_reducible refine LeO.bind ?_ (fun _ => ?_))
   | exact ih0 _ _ _ _ _ _ _
   | exact ih1 _ _ _ _ _ _ _ _
   | exact ih2 _ _ _ _ _ _
   | exact ih3 _ _ _ _ _
   | exact ih4 _ _ _ _ _
   | exact galois_Tables_Eval.mono _ _ _ _
   | exact galois_Tables_Through.mono _ _ _ _
   | exact outpostlaw32_made.mono _ _ _
   | exact outpostlaw32_row.mono _ _ _ _ _
   | exact outpostref32_Trim.mono _ _
   | exact LeO.none _
   | refine LeO.ite ?_ ?_
   | refine LeO.bind ?_ (fun _ => ?_)
theorem outpostlaw32_GaloisPoints.mono : ∀ a0 a1 a2 a3 k, LeO (outpostlaw32_GaloisPoints.f k a0 a1 a2 a3) (outpostlaw32_GaloisPoints.f (k + 1) a0 a1 a2 a3) := by
 intro a0 a1 a2 a3 k
 obtain ⟨ih0, ih1, ih2, ih3, ih4⟩ := outpostlaw32_GaloisPoints.mono_l k
 unfold outpostlaw32_GaloisPoints.f
 repeat' first
   | (with_reducible exact ih0 _ _ _ _ _ _ _)
   | (with_reducible exact ih1 _ _ _ _ _ _ _ _)
   | (with_reducible exact ih2 _ _ _ _ _ _)
   | (with_reducible exact ih3 _ _ _ _ _)
   | (with_reducible exact ih4 _ _ _ _ _)
   | (with_reducible exact galois_Tables_Eval.mono _ _ _ _)
   | (with_reducible exact galois_Tables_Through.mono _ _ _ _)
   | (with_reducible exact outpostlaw32_made.mono _ _ _)
   | (with_reducible exact outpostlaw32_row.mono _ _ _ _ _)
   | (with_reducible exact outpostref32_Trim.mono _ _)
   | (with_reducible exact LeO.refl _)
   | (with_reducible exact LeO.none _)
   | (with_reducible refine LeO.ite ?_ ?_)
   | (with_reducible refine LeO.bind ?_ (fun _ => ?_))
   | exact ih0 _ _ _ _ _ _ _
   | exact ih1 _ _ _ _ _ _ _ _
   | exact ih2 _ _ _ _ _ _
   | exact ih3 _ _ _ _ _
   | exact ih4 _ _ _ _ _
   | exact galois_Tables_Eval.mono _ _ _ _
   | exact galois_Tables_Through.mono _ _ _ _
   | exact outpostlaw32_made.mono _ _ _
   | exact outpostlaw32_row.mono _ _ _ _ _
   | exact outpostref32_Trim.mono _ _
   | exact LeO.none _
   | refine LeO.ite ?_ ?_
   | refine LeO.bind ?_ (fun _ => ?_)
def outpostlaw32_GaloisPoints.T4 : Bool × List (List Nat × List Nat) := (true, [([], []), ([], []), ([], []), ([2], [2]), ([3], [3]), ([0, 1, 4, 3], [0, 1, 4]), ([5, 5], [5]), ([6, 6, 0, 1, 2, 3, 4, 5, 6], [6])])
def outpostlaw32_GaloisPoints.B4 : List Nat := [0, 0, 0, 4, 12, 31, 63, 127]
theorem outpostlaw32_GaloisPoints.tab4 : rtab .any (opsOf Try.f7 4) = outpostlaw32_GaloisPoints.T4 := by kernel_rfl
theorem outpostlaw32_GaloisPoints.bits4 : waitsOk outpostlaw32_GaloisPoints.T4.2 outpostlaw32_GaloisPoints.B4 = true := by kernel_rfl
theorem outpostlaw32_GaloisPoints.no_false {r : Bool} {G : Prop} (hr : r = true) (h : some false = some r) : G := by
 subst hr
 cases h
theorem outpostlaw32_GaloisPoints.no_j2 {k : Nat} {x2 : List Int} {x7 : GTab} {x11 : List Int} {x341000 : Int} {x341001 : Int} {r : Bool} {G : Prop} (hr : r = true) (h : outpostlaw32_GaloisPoints.j2 k x2 x7 x11 true x341000 x341001 = some r) : G := by
 subst hr
 cases k <;> simp [outpostlaw32_GaloisPoints.j2] at h
theorem outpostlaw32_GaloisPoints.no_j3 {k : Nat} {x7 : GTab} {x11 : List Int} {x18 : List Int} {x19 : List Int} {r : Bool} {G : Prop} (hr : r = true) (h : outpostlaw32_GaloisPoints.j3 k x7 x11 x18 x19 true = some r) : G := by
 subst hr
 cases k <;> simp [outpostlaw32_GaloisPoints.j3] at h
set_option maxHeartbeats 8000000 in
set_option maxRecDepth 100000 in
theorem outpostlaw32_GaloisPoints.calls (k : Nat) (a0_0 : Int) (a0_1 : Int) (A1 : Option Addr) (c1 : Nat) (l1 : List Int) (A2 : Option Addr) (c2 : Nat) (l2 : List Int) (r : Bool) (hr9_ : r = true) (w : World) (hr1 : Kd.C (Kd.int .u8) w A1 l1.length l1) (hc1 : l1.length ≤ c1) (hr2 : Kd.C (Kd.int .u8) w A2 l2.length l2) (hc2 : l2.length ≤ c2) (h : outpostlaw32_GaloisPoints.f k a0_0 a0_1 l1 l2 = some r) :
  Calls Try.prog 7 #[.agg #[.int .i64 a0_0, .int .u64 a0_1], .slice A1 l1.length c1, .slice A2 l2.length c2] w fun e w' => e = .returned (.bool r) ∧ Below w.heap.size w w' := by
 have HR9_ := Aside0.mk hr9_
 clear hr9_
 have hu24 := Try.underlying24
 have HR1 := Aside0.mk hr1
 have HC1 := Aside0.mk hc1
 clear hr1 hc1
 have HR2 := Aside0.mk hr2
 have HC2 := Aside0.mk hc2
 clear hr2 hc2
 have HB := Aside0.mk (Below.refl w.heap.size w)
 have H : ((outpostlaw32_made.f k a0_0 a0_1).bind fun bt341 => (if bt341.2.1 = true then (outpostlaw32_GaloisPoints.j0 k l1 l2 bt341.1 bt341.2.2 (!bt341.2.2) a0_0 a0_1) else (outpostlaw32_GaloisPoints.j0 k l1 l2 bt341.1 bt341.2.2 true a0_0 a0_1))) = some r := h
 clear h
 replace H := Option.bind_eq_some_iff.mp H
 obtain ⟨⟨t341, t344, t345⟩, A40, H⟩ := H
 replace H : (if t344 = true then (outpostlaw32_GaloisPoints.j0 k l1 l2 t341 t345 (!t345) a0_0 a0_1) else (outpostlaw32_GaloisPoints.j0 k l1 l2 t341 t345 true a0_0 a0_1)) = some r := H
 have A4 := Aside0.mk A40
 clear A40
 have HC5 := Aside0.mk H
 clear H
 go_enter Try.func7, Try.ntmps7
 go_upto_region 2 with (first | ((with_reducible refine gate_dst (N := 3) rfl ?_); (try (refine gate_guard (by rfl) ?_; dsimp only)); refine box_event ?hg (N := 3) ?hd (cs := #[.int .i64 a0_0, .int .u64 a0_1]) (t := 24) ?hr ?_; (case hd => rfl); (case hg => rfl); (case hr => first | (go_simp; done) | (go_simp; rfl)); intro gb340 hg w6 hbox hb; have n0_ := Aside0.mk (below_step (by repeat (first | (with_reducible first | exact HB.out | apply below_alloc | apply pw_below_drewN | apply below_drew1) | exact HB.out)) hb); have n1_ := Aside0.mk (hbox); have n2_ := Aside0.mk ((by rw [hg]; exact (below_size (by repeat (first | (with_reducible first | exact HB.out | apply below_alloc | apply pw_below_drewN | apply below_drew1) | exact HB.out))) : w.heap.size ≤ gb340)); have n3_ := Aside0.mk ((by rw [hg]; exact (below_size (by repeat (first | (with_reducible first | exact HB.out | apply below_alloc | apply pw_below_drewN | apply below_drew1) | exact HB.out))) : w.heap.size ≤ gb340)); clear HB; have HB := n0_; have BK340 := n1_; have GW340 := n2_; have GE340 := n3_; clear n0_ n1_ n2_ n3_; clear hb hbox hg; have hcz7_0 : w6.cell? ⟨gb340, 0, none⟩ = some (.int .i64 a0_0) := (blk_cell BK340.out 0).trans rfl; have hcz7_1 : w6.cell? ⟨gb340, 1, none⟩ = some (.int .u64 a0_1) := (blk_cell BK340.out 1).trans rfl; have hfz7_0 := blk_frozen BK340.out 0; have hfz7_1 := blk_frozen BK340.out 1) | ((with_reducible refine gate_callee (f := 8) rfl ?_); refine goesL_ (some 26) rfl rfl Try.func8 (by kernel_rfl) rfl #[.agg #[.int .i64 a0_0, .int .u64 a0_1]] rfl (by (try simp only [List.map_toArray, List.map_cons, List.map_nil]); first | done | rfl | (simp only [List.length_drop, List.length_take]; rfl) | (simp [Act.eval, IntKind.wrap_u8, IntKind.wrap_u32]; done)) ?_; (with_reducible refine (outpostlaw32_made.calls k a0_0 a0_1 t341 t344 t345 _ A4.out).mono ?_); rintro e w ⟨Ap342, rfl, hT_, hb⟩; refine ⟨_, rfl, ?_⟩; have n0_ := Aside0.mk (blk_below (g := gb340) (o := .cells #[.int .i64 a0_0, .int .u64 a0_1] 24 (0, 0)) (by (with_reducible repeat (first | refine blk_drewN ?_ _ | refine blk_drew ?_ | refine blk_alloc ?_ _)); exact BK340.out) hb); have n1_ := Aside0.mk (Kd.C_below HR1.out (below_step (by repeat (first | (with_reducible first | exact HB.out | apply below_alloc | apply pw_below_drewN | apply below_drew1 | refine below_set ?_ GE340.out) | exact HB.out)) hb)); have n2_ := Aside0.mk (Kd.C_below HR2.out (below_step (by repeat (first | (with_reducible first | exact HB.out | apply below_alloc | apply pw_below_drewN | apply below_drew1 | refine below_set ?_ GE340.out) | exact HB.out)) hb)); have n3_ := Aside0.mk (Below.refl w.heap.size w); have n4_ := Aside0.mk (below_step (by repeat (first | (with_reducible first | exact HB.out | apply below_alloc | apply pw_below_drewN | apply below_drew1 | refine below_set ?_ GE340.out) | exact HB.out)) hb); clear BK340; clear HR1; clear HR2; clear HB; have BK340 := n0_; have HR1 := n1_; have HR2 := n2_; have HB := n3_; have HB00 := n4_; clear n0_ n1_ n2_ n3_ n4_; have HT343 := Aside0.mk hT_; clear hb hT_))
 (try simp only [Act.put, List.setIfInBounds_toArray, List.set_cons_zero, List.set_cons_succ])
 go_cut [35] (fun v35 wc => ∃ (kq : Nat) (x35_4 : Bool), v35 = .bool x35_4 ∧ Aside0 (outpostlaw32_GaloisPoints.j0 kq l1 l2 t341 t345 x35_4 a0_0 a0_1 = some r) ∧ Aside0 (kq ≤ k) ∧ Aside0 (wc.heap[gb340]? = some (.cells #[.int .i64 a0_0, .int .u64 a0_1] 24 (0, 0))) ∧ Aside0 (Below w.heap.size w wc))
 case first =>
  have H := HC5.out
  clear HC5
  by_cases c9 : t344 = true
  ·subst c9
   have H1 : (outpostlaw32_GaloisPoints.j0 k l1 l2 t341 t345 (!t345) a0_0 a0_1) = some r := by rw [if_pos rfl] at H; exact H
   clear H
   have H := H1
   clear H1
   have H' := Aside0.mk H
   clear H
   go_wp2
   go_meet
   case rel => exact ⟨_, (!t345), (by first | rfl | (simp; done) | (simp [*]; done) | (simp [wrap64]; done)), H', ⟨by first | omega | exact Nat.le_refl _⟩, ⟨by (with_reducible repeat (first | refine blk_drewN ?_ _ | refine blk_drew ?_ | refine blk_alloc ?_ _)); exact BK340.out⟩, ⟨by repeat (first | (with_reducible first | exact HB.out | apply below_alloc | apply pw_below_drewN | apply below_drew1 | refine below_set ?_ GE340.out) | exact HB.out)⟩⟩
  ·replace c9 := Bool.eq_false_iff.mpr c9
   subst c9
   have H1 : (outpostlaw32_GaloisPoints.j0 k l1 l2 t341 t345 true a0_0 a0_1) = some r := by rw [if_neg (show ¬ (false = true) by decide)] at H; exact H
   clear H
   have H := H1
   clear H1
   have H' := Aside0.mk H
   clear H
   go_wp2
   go_meet
   case rel => exact ⟨_, (true), (by first | rfl | (simp; done) | (simp [*]; done) | (simp [wrap64]; done)), H', ⟨by first | omega | exact Nat.le_refl _⟩, ⟨by (with_reducible repeat (first | refine blk_drewN ?_ _ | refine blk_drew ?_ | refine blk_alloc ?_ _)); exact BK340.out⟩, ⟨by repeat (first | (with_reducible first | exact HB.out | apply below_alloc | apply pw_below_drewN | apply below_drew1 | refine below_set ?_ GE340.out) | exact HB.out)⟩⟩
 case rest =>
  clear HC5
  (try clear c1); (try clear c2); (try clear p2); (try clear p3); (try clear p6); (try clear c7); (try clear c8); (try clear c9); (try clear hcz7_0); (try clear hcz7_1); (try clear hfz7_0); (try clear hfz7_1)
  obtain ⟨kq, x35_4, rfl, HA, HJ4, BK340, HB⟩ := hcut
  cases kq with
  | zero => exact absurd HA.out (by simp [outpostlaw32_GaloisPoints.j0])
  | succ kj4 =>
   have H := HA.out
   clear HA
   simp only [outpostlaw32_GaloisPoints.j0] at H
   by_cases c10 : x35_4 = true
   ·subst c10
    have H1 : (some t345) = some r := by rw [if_pos rfl] at H; exact H
    clear H
    have H := H1
    clear H1
    obtain rfl := Option.some.inj H
    go_wp2
    go_ret
    exact ⟨by first | rfl | (simp [errW_none, errW_some] <;> rfl) | (simp [*, errW_none, errW_some] <;> rfl), below_step HB00.out (by repeat (first | (with_reducible first | exact HB.out | apply below_alloc | apply pw_below_drewN | apply below_drew1 | refine below_set ?_ GE340.out) | exact HB.out))⟩
   ·replace c10 := Bool.eq_false_iff.mpr c10
    subst c10
    have H1 : ((outpostref32_Size.f a0_0 a0_1).bind fun t346 => ((outpostlaw32_row.f kj4 a0_0 a0_1 l1 (wrap64 (t346 - 1))).bind fun t347 => ((outpostref32_Trim.f kj4 t347).bind fun t350 => (outpostlaw32_GaloisPoints.l0 kj4 l2 t341 t350 ([] : List Int) ([] : List Int) 0 a0_0 a0_1)))) = some r := by rw [if_neg (show ¬ (false = true) by decide)] at H; exact H
    clear H
    have H := H1
    clear H1
    replace H := Option.bind_eq_some_iff.mp H
    obtain ⟨t346, A110, H⟩ := H
    replace H : ((outpostlaw32_row.f kj4 a0_0 a0_1 l1 (wrap64 (t346 - 1))).bind fun t347 => ((outpostref32_Trim.f kj4 t347).bind fun t350 => (outpostlaw32_GaloisPoints.l0 kj4 l2 t341 t350 ([] : List Int) ([] : List Int) 0 a0_0 a0_1))) = some r := H
    have A11 := Aside0.mk A110
    clear A110
    replace H := Option.bind_eq_some_iff.mp H
    obtain ⟨t347, A120, H⟩ := H
    replace H : ((outpostref32_Trim.f kj4 t347).bind fun t350 => (outpostlaw32_GaloisPoints.l0 kj4 l2 t341 t350 ([] : List Int) ([] : List Int) 0 a0_0 a0_1)) = some r := H
    have A12 := Aside0.mk A120
    clear A120
    replace H := Option.bind_eq_some_iff.mp H
    obtain ⟨t350, A130, H⟩ := H
    replace H : (outpostlaw32_GaloisPoints.l0 kj4 l2 t341 t350 ([] : List Int) ([] : List Int) 0 a0_0 a0_1) = some r := H
    have A13 := Aside0.mk A130
    clear A130
    have H' := Aside0.mk H
    clear H
    try go_wp2
    have n0_ := Aside0.mk (blk_drew BK340.out)
    have n1_ := Aside0.mk (below_drew1 HB.out)
    clear BK340 HB
    have BK340 := n0_
    have HB := n1_
    clear n0_ n1_
    refine start_ (n := 8) (S := fun w' => w'.cell? ⟨gb340, 0, none⟩ = some (.int .i64 a0_0) ∧ w'.cell? ⟨gb340, 1, none⟩ = some (.int .u64 a0_1)) (ds := []) #[false, false, false, false, false, false, false, false] (by kernel_rfl) rfl rfl ⟨(blk_cell BK340.out 0).trans rfl, (blk_cell BK340.out 1).trans rfl⟩ (fun hHeld => ?_); refine with_tabW outpostlaw32_GaloisPoints.tab4 outpostlaw32_GaloisPoints.bits4 (fun HT_ HW_ => ?_)
    generalize wc.drew = w14 at BK340 HB hHeld ⊢
    refine pure_ (i := 1) (N := some 38) (v := ?_) (a' := ?_) #[false, true, false, false, false, false, false, false] rfl rfl (any_of HT_.out (by kernel_rfl)) (fun _ _ _ h => h) (Or.inl ⟨by rfl, ?_⟩) ?_ ?_
    rotate_left
    ·intro w'
     go_simp
     with_reducible rfl
    rotate_left
    ·simp only [Act.put, List.setIfInBounds_toArray, List.set_cons_zero, List.set_cons_succ, i64_w, i32_w]
     rfl
    refine take_ (i := 0) (N := some 37) (v := ?_) (a' := ?_) #[true, true, false, false, false, false, false, false] rfl rfl (take_ofW HT_.out HW_.out (by kernel_rfl)) (fun _ _ _ h => h) (Or.inl ⟨by rfl, ?_⟩) hHeld ?_ ?_
    rotate_left
    ·rintro w' ⟨s0, s1⟩
     go_simp
     with_reducible rfl
    rotate_left
    ·simp only [Act.put, List.setIfInBounds_toArray, List.set_cons_zero, List.set_cons_succ, i64_w, i32_w]
     rfl
    refine take_ (i := 2) (N := some 39) (v := ?_) (a' := ?_) #[true, true, true, false, false, false, false, false] rfl rfl (take_ofW HT_.out HW_.out (by kernel_rfl)) (fun _ _ _ h => h) (Or.inl ⟨by rfl, ?_⟩) hHeld ?_ ?_
    rotate_left
    ·rintro w' ⟨s0, s1⟩
     go_simp
     with_reducible rfl
    rotate_left
    ·simp only [Act.put, List.setIfInBounds_toArray, List.set_cons_zero, List.set_cons_succ, i64_w, i32_w]
     rfl
    refine one_ (i := 3) (N := some 40) #[true, true, true, true, false, false, false, false] rfl rfl (one_of HT_.out (by kernel_rfl)) (by decide) (fun K hK => ?_)
    refine goes_ Try.func34 (by kernel_rfl) rfl #[.agg #[.int .i64 a0_0, .int .u64 a0_1]] (by rfl) rfl rfl (by (try simp only [List.map_toArray, List.map_cons, List.map_nil]); first | done | rfl | (simp only [List.length_drop, List.length_take]; rfl) | (simp [Act.eval, IntKind.wrap_u8, IntKind.wrap_u32]; done)) ?_
    with_reducible refine (outpostref32_Size.calls a0_0 a0_1 t346 _ A11.out).mono ?_
    rintro e w15 ⟨rfl, hb⟩
    refine ⟨_, rfl, ?_⟩
    have n0_ := Aside0.mk (blk_below (g := gb340) (o := .cells #[.int .i64 a0_0, .int .u64 a0_1] 24 (0, 0)) (by (with_reducible repeat (first | refine blk_drewN ?_ _ | refine blk_drew ?_ | refine blk_alloc ?_ _)); exact BK340.out) hb)
    have n1_ := Aside0.mk (below_step (by repeat (first | (with_reducible first | exact HB.out | apply below_alloc | apply pw_below_drewN | apply below_drew1 | refine below_set ?_ GE340.out) | exact HB.out)) hb)
    clear BK340 HB
    have BK340 := n0_
    have HB := n1_
    clear n0_ n1_
    (try clear hb); (try clear hb2); (try clear hk); (try clear hi)
    refine hK.out _ _ ⟨(blk_cell BK340.out 0).trans rfl, (blk_cell BK340.out 1).trans rfl⟩ (fun hHeld => ?_)
    clear hK K
    refine norm_ (a' := ?_) ?_ ?_
    rotate_left
    ·show Act.put _ (some 40) _ = _
     simp only [Act.put, List.setIfInBounds_toArray, List.set_cons_zero, List.set_cons_succ, i64_w, i32_w]
     rfl
    refine pure_ (i := 4) (N := some 41) (v := ?_) (a' := ?_) #[true, true, true, true, true, false, false, false] rfl rfl (any_of HT_.out (by kernel_rfl)) (fun _ _ _ h => h) (Or.inl ⟨by rfl, ?_⟩) ?_ ?_
    rotate_left
    ·intro w'
     go_simp
     with_reducible rfl
    rotate_left
    ·simp only [Act.put, List.setIfInBounds_toArray, List.set_cons_zero, List.set_cons_succ, i64_w, i32_w]
     rfl
    refine one_ (i := 5) (N := some 42) #[true, true, true, true, true, true, false, false] rfl rfl (one_of HT_.out (by kernel_rfl)) (by decide) (fun K hK => ?_)
    refine goes_ Try.func17 (by kernel_rfl) rfl #[.agg #[.int .i64 a0_0, .int .u64 a0_1], .slice A1 l1.length c1, .int .i64 (wrap64 (t346 - 1))] (by rfl) rfl rfl (by (try simp only [List.map_toArray, List.map_cons, List.map_nil]); first | done | rfl | (simp only [List.length_drop, List.length_take]; rfl) | (simp [Act.eval, IntKind.wrap_u8, IntKind.wrap_u32]; done)) ?_
    with_reducible refine (outpostlaw32_row.calls kj4 a0_0 a0_1 _ _ l1 (wrap64 (t346 - 1)) t347 _ ?side1 ?side2 A12.out).mono ?_
    (case side1 => repeat (first | exact (Kd.C_below HR1.out HB.out) | (with_reducible refine Kd.C_alloc ?_ _) | (with_reducible refine Kd.C_drewN ?_ _) | (with_reducible refine Kd.C_drew ?_)))
    (case side2 => exact HC1.out)
    rintro e w16 ⟨v348, rfl, ho0, hb⟩
    refine ⟨_, rfl, ?_⟩
    have n0_ := Aside0.mk (Kd.R_lower ho0 (below_size (by repeat (first | (with_reducible first | exact HB.out | apply below_alloc | apply pw_below_drewN | apply below_drew1 | refine below_set ?_ GE340.out) | exact HB.out))))
    have n1_ := Aside0.mk (blk_below (g := gb340) (o := .cells #[.int .i64 a0_0, .int .u64 a0_1] 24 (0, 0)) (by (with_reducible repeat (first | refine blk_drewN ?_ _ | refine blk_drew ?_ | refine blk_alloc ?_ _)); exact BK340.out) hb)
    have n2_ := Aside0.mk (below_step (by repeat (first | (with_reducible first | exact HB.out | apply below_alloc | apply pw_below_drewN | apply below_drew1 | refine below_set ?_ GE340.out) | exact HB.out)) hb)
    clear BK340 HB
    have HO349 := n0_
    have BK340 := n1_
    have HB := n2_
    clear n0_ n1_ n2_
    (try clear hb); (try clear hb2); (try clear hk); (try clear hi); (try clear ho0)
    obtain ⟨Ao17, co17, eo17⟩ := Kd.R_slice HO349.out
    (first | subst eo17 | (injection eo17 with f1_ f2_ f3_; have f4_ := f1_.symm; have f5_ := f3_.symm; clear f1_ f2_ f3_; subst f4_; subst f5_))
    refine hK.out _ _ ⟨(blk_cell BK340.out 0).trans rfl, (blk_cell BK340.out 1).trans rfl⟩ (fun hHeld => ?_)
    clear hK K
    refine norm_ (a' := ?_) ?_ ?_
    rotate_left
    ·show Act.put _ (some 42) _ = _
     simp only [Act.put, List.setIfInBounds_toArray, List.set_cons_zero, List.set_cons_succ, i64_w, i32_w]
     rfl
    refine one_ (i := 6) (N := some 43) #[true, true, true, true, true, true, true, false] rfl rfl (one_of HT_.out (by kernel_rfl)) (by decide) (fun K hK => ?_)
    refine goes_ Try.func16 (by kernel_rfl) rfl #[.slice Ao17 t347.length co17] (by rfl) rfl rfl (by (try simp only [List.map_toArray, List.map_cons, List.map_nil]); first | done | rfl | (simp only [List.length_drop, List.length_take]; rfl) | (simp [Act.eval, IntKind.wrap_u8, IntKind.wrap_u32]; done)) ?_
    with_reducible refine (outpostref32_Trim.calls kj4 (fun k_ => some k_ = (.slice Ao17 t347.length co17 : Value).ownBlock) _ _ t347 t350 _ ?side1 A13.out).mono ?_
    (case side1 => exact Kd.R_V (Kd.R_tight rfl (Kd.R_types (HO349.out) BK340.out (by decide))))
    rintro e w18 ⟨v351, rfl, ho0, hb⟩
    refine ⟨_, rfl, ?_⟩
    have n0_ := Aside0.mk (Kd.R_elder' (by (with_reducible repeat (first | apply Kd.R_alloc | apply Kd.R_drewN | apply Kd.R_drew)); exact HO349.out) (Kd.R_base ho0) hb)
    have n1_ := Aside0.mk (Kd.R_lower (Kd.R_new' (Kd.R_mono (ok' := fun k_ => True) ho0 (fun _ hk_ => trivial)) (Kd.R_lt (by (with_reducible repeat (first | apply Kd.R_alloc | apply Kd.R_drewN | apply Kd.R_drew)); exact HO349.out))) (below_size (by repeat (first | (with_reducible first | exact HB.out | apply below_alloc | apply pw_below_drewN | apply below_drew1 | refine below_set ?_ GE340.out) | exact HB.out))))
    have n2_ := Aside0.mk (blk_below (g := gb340) (o := .cells #[.int .i64 a0_0, .int .u64 a0_1] 24 (0, 0)) (by (with_reducible repeat (first | refine blk_drewN ?_ _ | refine blk_drew ?_ | refine blk_alloc ?_ _)); exact BK340.out) hb)
    have n3_ := Aside0.mk (below_step (by repeat (first | (with_reducible first | exact HB.out | apply below_alloc | apply pw_below_drewN | apply below_drew1 | refine below_set ?_ GE340.out) | exact HB.out)) hb)
    clear HO349 BK340 HB
    have HO349 := n0_
    have HO352 := n1_
    have BK340 := n2_
    have HB := n3_
    clear n0_ n1_ n2_ n3_
    (try clear hb); (try clear hb2); (try clear hk); (try clear hi); (try clear ho0)
    refine hK.out _ _ ⟨(blk_cell BK340.out 0).trans rfl, (blk_cell BK340.out 1).trans rfl⟩ (fun hHeld => ?_)
    clear hK K
    refine norm_ (a' := ?_) ?_ ?_
    rotate_left
    ·show Act.put _ (some 43) _ = _
     simp only [Act.put, List.setIfInBounds_toArray, List.set_cons_zero, List.set_cons_succ, i64_w, i32_w]
     rfl
    refine pure_ (i := 7) (N := some 10) (v := ?_) (a' := ?_) #[true, true, true, true, true, true, true, true] rfl rfl (any_of HT_.out (by kernel_rfl)) (fun _ _ _ h => h) (Or.inl ⟨by rfl, ?_⟩) ?_ ?_
    rotate_left
    ·intro w'
     go_simp
     with_reducible rfl
    rotate_left
    ·simp only [Act.put, List.setIfInBounds_toArray, List.set_cons_zero, List.set_cons_succ, i64_w, i32_w]
     rfl
    refine done_ (done_of HT_.out (by kernel_rfl)) ?_
    try go_wp2
    go_loopg [11, 12, 13] kj4 (fun kq v11 v12 v13 w' => ∃ (x11_2 : List Int) (x12_2 : List Int) (x13_2 : Int), v13 = .int .i64 x13_2 ∧ Aside0 (outpostlaw32_GaloisPoints.l0 kq l2 t341 t350 x11_2 x12_2 x13_2 a0_0 a0_1 = some r) ∧ Aside0 (kq ≤ kj4) ∧ Aside0 (Kd.R (Kd.int .u8) 5 w' w.heap.size (fun k_ => some k_ ≠ (v11 : Value).ownBlock ∧ some k_ ≠ (v12 : Value).ownBlock) v351 t350) ∧ Aside0 (Kd.R (Kd.int .u8) 5 w' w.heap.size (fun k_ => some k_ ≠ (v351 : Value).ownBlock ∧ some k_ ≠ (v12 : Value).ownBlock) v11 x11_2) ∧ Aside0 (Kd.R (Kd.int .u8) 5 w' w.heap.size (fun k_ => some k_ ≠ (v351 : Value).ownBlock ∧ some k_ ≠ (v11 : Value).ownBlock) v12 x12_2) ∧ Aside0 (w'.heap[gb340]? = some (.cells #[.int .i64 a0_0, .int .u64 a0_1] 24 (0, 0))) ∧ Aside0 (Below w.heap.size w w'))
    case atStart => exact ⟨(([] : List Int)), (([] : List Int)), (0), (by first | rfl | (simp; done) | (simp [*]; done) | (simp [wrap64]; done)), H', ⟨Nat.le_refl _⟩, ⟨by (with_reducible repeat (first | apply Kd.R_alloc | apply Kd.R_drewN | apply Kd.R_drew)); exact Kd.R_mono HO352.out (fun _ hk => ⟨(by simp [Value.ownBlock]), (by simp [Value.ownBlock])⟩)⟩, ⟨by first | exact Kd.R_nil _ _ _ _ _ | exact Kd.N_nil _ _ _ _ _ | exact Kd.V_nil _ _ _ _ _ | exact Kd.Q_nil _ _ _ _ _ | exact Kd.S_nil _ _ _ _ _⟩, ⟨by first | exact Kd.R_nil _ _ _ _ _ | exact Kd.N_nil _ _ _ _ _ | exact Kd.V_nil _ _ _ _ _ | exact Kd.Q_nil _ _ _ _ _ | exact Kd.S_nil _ _ _ _ _⟩, ⟨by (with_reducible repeat (first | refine blk_drewN ?_ _ | refine blk_drew ?_ | refine blk_alloc ?_ _)); exact BK340.out⟩, ⟨by repeat (first | (with_reducible first | exact HB.out | apply below_alloc | apply pw_below_drewN | apply below_drew1 | refine below_set ?_ GE340.out) | exact HB.out)⟩⟩
    case round =>
     (try clear hHeld)
     clear H'
     (try clear c1); (try clear c2); (try clear p2); (try clear c3); (try clear p3); (try clear p6); (try clear c7); (try clear c8); (try clear c9); (try clear c10); (try clear c16); (try clear c17); (try clear hcz7_0); (try clear hcz7_1); (try clear hfz7_0); (try clear hfz7_1); (try clear p2); (try clear p3)
     try clear p6
     obtain ⟨x11_2, x12_2, x13_2, rfl, HA, HK2, HO_10, HO_11, HO_12, BK340, HB⟩ := hrel
     cases gk with
     | zero => exact absurd HA.out (by simp [outpostlaw32_GaloisPoints.l0])
     | succ k2 =>
      have H := HA.out
      clear HA
      simp only [outpostlaw32_GaloisPoints.l0] at H
      by_cases c19 : x13_2 ≤ (t350.length : Int)
      ·rw [if_pos c19] at H
       have c19b0 : decide (x13_2 ≤ (t350.length : Int)) = true := decide_eq_true c19
       clear c19
       replace H := Option.bind_eq_some_iff.mp H
       obtain ⟨⟨t353, t354⟩, A200, H⟩ := H
       replace H : ((outpostlaw32_num.f t354).bind fun t355 => (if t355 = 0 then (if x11_2.length < 140737488355328 then (if x12_2.length < 140737488355328 then (outpostlaw32_GaloisPoints.l0 k2 l2 t341 t350 (x11_2 ++ [(x13_2) % 256]) (x12_2 ++ [t353]) (wrap64 (x13_2 + 1)) a0_0 a0_1) else (none)) else (none)) else (some false))) = some r := H
       have A20 := Aside0.mk A200
       clear A200
       replace H := Option.bind_eq_some_iff.mp H
       obtain ⟨t355, A210, H⟩ := H
       replace H : (if t355 = 0 then (if x11_2.length < 140737488355328 then (if x12_2.length < 140737488355328 then (outpostlaw32_GaloisPoints.l0 k2 l2 t341 t350 (x11_2 ++ [(x13_2) % 256]) (x12_2 ++ [t353]) (wrap64 (x13_2 + 1)) a0_0 a0_1) else (none)) else (none)) else (some false)) = some r := H
       have A21 := Aside0.mk A210
       clear A210
       by_cases c22 : t355 = 0
       ·rw [if_pos c22] at H
        have c22b0 : (t355 == 0) = true := beq_iff_eq.mpr c22
        have c22b1 : (t355 != 0) = false := bne_eq_false_iff_eq.mpr c22
        clear c22
        by_cases c23 : x11_2.length < 140737488355328
        ·rw [if_pos c23] at H
         have LMc23 := Aside0.mk c23
         clear c23
         obtain ⟨y356, hy356⟩ : ∃ y_ : List Int, y_ = (x11_2 ++ [(x13_2) % 256]) := ⟨_, rfl⟩
         replace H : (if x12_2.length < 140737488355328 then (outpostlaw32_GaloisPoints.l0 k2 l2 t341 t350 y356 (x12_2 ++ [t353]) (wrap64 (x13_2 + 1)) a0_0 a0_1) else (none)) = some r := by first | (rw [hy356]; with_reducible exact H) | (have H2_ := (Option.bind_some _ _).symm.trans H; rw [hy356]; with_reducible exact H2_) | (have H2_ := (Option.bind_some _ _).symm.trans H; with_reducible exact H2_) | with_reducible exact H | (rw [hy356]; exact H) | exact H
         have Ny356 := Aside0.mk hy356
         clear hy356
         by_cases c24 : x12_2.length < 140737488355328
         ·rw [if_pos c24] at H
          have LMc24 := Aside0.mk c24
          clear c24
          obtain ⟨y359, hy359⟩ : ∃ y_ : List Int, y_ = (x12_2 ++ [t353]) := ⟨_, rfl⟩
          replace H : (outpostlaw32_GaloisPoints.l0 k2 l2 t341 t350 y356 y359 (wrap64 (x13_2 + 1)) a0_0 a0_1) = some r := by first | (rw [hy359]; with_reducible exact H) | (have H2_ := (Option.bind_some _ _).symm.trans H; rw [hy359]; with_reducible exact H2_) | (have H2_ := (Option.bind_some _ _).symm.trans H; with_reducible exact H2_) | with_reducible exact H | (rw [hy359]; exact H) | exact H
          have Ny359 := Aside0.mk hy359
          clear hy359
          have H' := Aside0.mk H
          clear H
          obtain ⟨Ao25, co25, eo25⟩ := Kd.R_slice HO_10.out
          subst eo25
          go_wp2_with (first | ((with_reducible refine gate_callee (f := 23) rfl ?_); refine goesL_ (some 55) rfl rfl Try.func23 (by kernel_rfl) rfl #[.pointer Ap342, .slice Ao25 t350.length co25, .int .u8 ((x13_2) % 256)] rfl (by (try simp only [List.map_toArray, List.map_cons, List.map_nil]); first | done | rfl | (simp only [List.length_drop, List.length_take]; rfl) | (simp [Act.eval, IntKind.wrap_u8, IntKind.wrap_u32]; done)) ?_; (with_reducible refine (galois_Tables_Eval.calls k2 _ t341 (fun k_ => some k_ = (.slice Ao25 t350.length co25 : Value).ownBlock) _ _ t350 ((x13_2) % 256) t353 t354 _ ?side1 ?side2 A20.out).mono ?_); (case side1 => exact (gal_OK_below HT343.out HB.out)); (case side2 => exact Kd.R_V (Kd.R_tight rfl (Kd.R_types (HO_10.out) BK340.out (by decide)))); rintro e w26 ⟨rfl, hb⟩; refine ⟨_, rfl, ?_⟩; have n0_ := Aside0.mk (Kd.R_below (by (with_reducible repeat (first | apply Kd.R_alloc | apply Kd.R_drewN | apply Kd.R_drew)); exact HO_10.out) hb); have n1_ := Aside0.mk (Kd.R_below (by (with_reducible repeat (first | apply Kd.R_alloc | apply Kd.R_drewN | apply Kd.R_drew)); exact HO_11.out) hb); have n2_ := Aside0.mk (Kd.R_below (by (with_reducible repeat (first | apply Kd.R_alloc | apply Kd.R_drewN | apply Kd.R_drew)); exact HO_12.out) hb); have n3_ := Aside0.mk (blk_below (g := gb340) (o := .cells #[.int .i64 a0_0, .int .u64 a0_1] 24 (0, 0)) (by (with_reducible repeat (first | refine blk_drewN ?_ _ | refine blk_drew ?_ | refine blk_alloc ?_ _)); exact BK340.out) hb); have n4_ := Aside0.mk (below_step (by repeat (first | (with_reducible first | exact HB.out | apply below_alloc | apply pw_below_drewN | apply below_drew1 | refine below_set ?_ GE340.out) | exact HB.out)) hb); clear HO_10; clear HO_11; clear HO_12; clear BK340; clear HB; have HO_10 := n0_; have HO_11 := n1_; have HO_12 := n2_; have BK340 := n3_; have HB := n4_; clear n0_ n1_ n2_ n3_ n4_; (try clear hb); (try clear hb2); (try clear hk); (try clear hi)) | ((with_reducible refine gate_callee (f := 13) rfl ?_); refine goesL_ (some 59) rfl rfl Try.func13 (by kernel_rfl) rfl #[.int .i64 t354] rfl (by (try simp only [List.map_toArray, List.map_cons, List.map_nil]); first | done | rfl | (simp only [List.length_drop, List.length_take]; rfl) | (simp [Act.eval, IntKind.wrap_u8, IntKind.wrap_u32]; done)) ?_; (with_reducible refine (outpostlaw32_num.calls t354 t355 _ A21.out).mono ?_); rintro e w' ⟨rfl, ⟨nd, rfl⟩⟩; refine ⟨_, rfl, ?_⟩) | ((with_reducible refine gate_builtin (b := .append) (xs := #[.tmp 61, .tmp 64]) rfl ?_); (try (refine gate_guard (by rfl) ?_; dsimp only)); at_builtin; refine Kd.R_append (Kd.int .u8) (w0 := w) w.heap.size rfl (.tmp 61) (.tmp 64) 25 5 (.int .u8 0) 1 rfl Try.underlying25 info5 rfl (by decide) (by omega) u11 x11_2 ((x13_2) % 256) [.int .u8 ((x13_2) % 256)] (fun k_ => some k_ ≠ (.slice Ao25 t350.length co25 : Value).ownBlock ∧ some k_ ≠ (u12 : Value).ownBlock) (fun _ => False) rfl rfl ?aP (fun _ hk => hk.elim) ?aF ?aO ?aB ?aS ?aL ?_; (case aP => exact rfl); (case aB => exact (by repeat (first | (with_reducible first | exact HB.out | apply below_alloc | apply pw_below_drewN | apply below_drew1 | refine below_set ?_ GE340.out) | exact HB.out))); (case aF => exact (fun k_ hk => ⟨Kd.fresh' (Kd.R_lt (by (with_reducible repeat (first | apply Kd.R_alloc | apply Kd.R_drewN | apply Kd.R_drew)); exact HO_10.out)) k_ hk, Kd.fresh' (Kd.R_lt (by (with_reducible repeat (first | apply Kd.R_alloc | apply Kd.R_drewN | apply Kd.R_drew)); exact HO_12.out)) k_ hk⟩)); (case aO => exact (by (with_reducible repeat (first | apply Kd.R_alloc | apply Kd.R_drewN | apply Kd.R_drew)); exact HO_11.out)); (case aS => exact (below_size (by repeat (first | (with_reducible first | exact HB.out | apply below_alloc | apply pw_below_drewN | apply below_drew1 | refine below_set ?_ GE340.out) | exact HB.out)))); (case aL => have := LMc23.out; omega); intro v357 w27 ho hb hg hat; rw [← Ny356.out] at ho; have n0_ := Aside0.mk (Kd.R_after (ok := (fun k_ => some k_ ≠ (u12 : Value).ownBlock)) (by (with_reducible repeat (first | apply Kd.R_alloc | apply Kd.R_drewN | apply Kd.R_drew)); exact Kd.R_mono HO_10.out (fun _ hk => ⟨hk.2, hk.1⟩)) hg hat); have n1_ := Aside0.mk (Kd.R_after (ok := (fun k_ => some k_ ≠ (.slice Ao25 t350.length co25 : Value).ownBlock)) (by (with_reducible repeat (first | apply Kd.R_alloc | apply Kd.R_drewN | apply Kd.R_drew)); exact HO_12.out) hg hat); have n2_ := Aside0.mk (blk_grown (g := gb340) (o := .cells #[.int .i64 a0_0, .int .u64 a0_1] 24 (0, 0)) (by (with_reducible repeat (first | refine blk_drewN ?_ _ | refine blk_drew ?_ | refine blk_alloc ?_ _)); exact BK340.out) hg (Kd.R_ne HO_11.out BK340.out (by decide))); have n3_ := Aside0.mk (hb); have n4_ := Aside0.mk (ho); clear HO_10; clear HO_12; clear BK340; clear HB; clear HO_11; have HO_10 := n0_; have HO_12 := n1_; have BK340 := n2_; have HB := n3_; have HO358 := n4_; clear n0_ n1_ n2_ n3_ n4_; clear ho hb hg hat) | ((with_reducible refine gate_builtin (b := .append) (xs := #[.tmp 66, .tmp 68]) rfl ?_); (try (refine gate_guard (by rfl) ?_; dsimp only)); at_builtin; refine Kd.R_append (Kd.int .u8) (w0 := w) w.heap.size rfl (.tmp 66) (.tmp 68) 25 5 (.int .u8 0) 1 rfl Try.underlying25 info5 rfl (by decide) (by omega) u12 x12_2 t353 [.int .u8 t353] (fun k_ => some k_ ≠ (.slice Ao25 t350.length co25 : Value).ownBlock ∧ some k_ ≠ (v357 : Value).ownBlock) (fun _ => False) rfl rfl ?aP (fun _ hk => hk.elim) ?aF ?aO ?aB ?aS ?aL ?_; (case aP => exact rfl); (case aB => exact (by repeat (first | (with_reducible first | exact HB.out | apply below_alloc | apply pw_below_drewN | apply below_drew1 | refine below_set ?_ GE340.out) | exact HB.out))); (case aF => exact (fun k_ hk => ⟨Kd.fresh' (Kd.R_lt (by (with_reducible repeat (first | apply Kd.R_alloc | apply Kd.R_drewN | apply Kd.R_drew)); exact HO_10.out)) k_ hk, Kd.fresh' (Kd.R_lt (by (with_reducible repeat (first | apply Kd.R_alloc | apply Kd.R_drewN | apply Kd.R_drew)); exact HO358.out)) k_ hk⟩)); (case aO => exact (by (with_reducible repeat (first | apply Kd.R_alloc | apply Kd.R_drewN | apply Kd.R_drew)); exact HO_12.out)); (case aS => exact (below_size (by repeat (first | (with_reducible first | exact HB.out | apply below_alloc | apply pw_below_drewN | apply below_drew1 | refine below_set ?_ GE340.out) | exact HB.out)))); (case aL => have := LMc24.out; omega); intro v360 w28 ho hb hg hat; rw [← Ny359.out] at ho; have n0_ := Aside0.mk (Kd.R_after (ok := (fun k_ => some k_ ≠ (v357 : Value).ownBlock)) (by (with_reducible repeat (first | apply Kd.R_alloc | apply Kd.R_drewN | apply Kd.R_drew)); exact Kd.R_mono HO_10.out (fun _ hk => ⟨hk.2, hk.1⟩)) hg hat); have n1_ := Aside0.mk (blk_grown (g := gb340) (o := .cells #[.int .i64 a0_0, .int .u64 a0_1] 24 (0, 0)) (by (with_reducible repeat (first | refine blk_drewN ?_ _ | refine blk_drew ?_ | refine blk_alloc ?_ _)); exact BK340.out) hg (Kd.R_ne HO_12.out BK340.out (by decide))); have n2_ := Aside0.mk (Kd.R_after (ok := (fun k_ => some k_ ≠ (.slice Ao25 t350.length co25 : Value).ownBlock)) (by (with_reducible repeat (first | apply Kd.R_alloc | apply Kd.R_drewN | apply Kd.R_drew)); exact HO358.out) hg hat); have n3_ := Aside0.mk (hb); have n4_ := Aside0.mk (ho); clear HO_10; clear BK340; clear HO358; clear HB; clear HO_12; have HO_10 := n0_; have BK340 := n1_; have HO358 := n2_; have HB := n3_; have HO361 := n4_; clear n0_ n1_ n2_ n3_ n4_; clear ho hb hg hat))
          go_roundg k2
          case measure => have := HJ4.out; have := HK2.out; omega
          case rel => exact ⟨(y356), (y359), (wrap64 (x13_2 + 1)), (by first | rfl | (simp; done) | (simp [*]; done) | (simp [wrap64]; done)), H', ⟨by have := HJ4.out; have := HK2.out; omega⟩, ⟨by (with_reducible repeat (first | apply Kd.R_alloc | apply Kd.R_drewN | apply Kd.R_drew)); exact HO_10.out⟩, ⟨by (with_reducible repeat (first | apply Kd.R_alloc | apply Kd.R_drewN | apply Kd.R_drew)); exact HO358.out⟩, ⟨by (with_reducible repeat (first | apply Kd.R_alloc | apply Kd.R_drewN | apply Kd.R_drew)); exact HO361.out⟩, ⟨by (with_reducible repeat (first | refine blk_drewN ?_ _ | refine blk_drew ?_ | refine blk_alloc ?_ _)); exact BK340.out⟩, ⟨by repeat (first | (with_reducible first | exact HB.out | apply below_alloc | apply pw_below_drewN | apply below_drew1 | refine below_set ?_ GE340.out) | exact HB.out)⟩⟩
         ·rw [if_neg c24] at H
          exact absurd H (by simp)
        ·rw [if_neg c23] at H
         exact absurd H (by simp)
       ·rw [if_neg c22] at H
        exact outpostlaw32_GaloisPoints.no_false HR9_.out H
      ·rw [if_neg c19] at H
       have c19b0 : decide (x13_2 ≤ (t350.length : Int)) = false := decide_eq_false c19
       clear c19
       replace H := Option.bind_eq_some_iff.mp H
       obtain ⟨⟨t362, t365⟩, A310, H⟩ := H
       replace H : ((outpostlaw32_num.f t365).bind fun t366 => (if t366 = 0 then ((outpostlaw32_same.f t362 t350).bind fun t367 => (outpostlaw32_GaloisPoints.j2 k2 l2 t341 x11_2 (!t367) a0_0 a0_1)) else (outpostlaw32_GaloisPoints.j2 k2 l2 t341 x11_2 true a0_0 a0_1))) = some r := H
       have A31 := Aside0.mk A310
       clear A310
       have HC32 := Aside0.mk H
       clear H
       obtain ⟨Ao33, co33, eo33⟩ := Kd.R_slice HO_10.out
       subst eo33
       obtain ⟨Ao34, co34, eo34⟩ := Kd.R_slice HO_11.out
       subst eo34
       obtain ⟨Ao35, co35, eo35⟩ := Kd.R_slice HO_12.out
       subst eo35
       go_upto_region 15 with (first | ((with_reducible refine gate_callee (f := 10) rfl ?_); refine goesL_ (some 74) rfl rfl Try.func10 (by kernel_rfl) rfl #[.pointer Ap342, .slice Ao34 x11_2.length co34, .slice Ao35 x12_2.length co35] rfl (by (try simp only [List.map_toArray, List.map_cons, List.map_nil]); first | done | rfl | (simp only [List.length_drop, List.length_take]; rfl) | (simp [Act.eval, IntKind.wrap_u8, IntKind.wrap_u32]; done)) ?_; (with_reducible refine (galois_Tables_Through.calls k2 _ t341 (fun k_ => some k_ = (.slice Ao34 x11_2.length co34 : Value).ownBlock) _ _ x11_2 (fun k_ => some k_ = (.slice Ao35 x12_2.length co35 : Value).ownBlock) _ _ x12_2 t362 t365 _ ?side1 ?side2 ?side3 A31.out).mono ?_); (case side1 => exact (gal_OK_below HT343.out HB.out)); (case side2 => exact Kd.R_V (Kd.R_tight rfl (Kd.R_types (HO_11.out) BK340.out (by decide)))); (case side3 => exact Kd.R_V (Kd.R_tight rfl (Kd.R_types (HO_12.out) BK340.out (by decide)))); rintro e w36 ⟨v363, rfl, ho0, hb⟩; refine ⟨_, rfl, ?_⟩; have n0_ := Aside0.mk (Kd.R_elder' (by (with_reducible repeat (first | apply Kd.R_alloc | apply Kd.R_drewN | apply Kd.R_drew)); exact HO_10.out) (Kd.R_base ho0) hb); have n1_ := Aside0.mk (Kd.R_elder' (by (with_reducible repeat (first | apply Kd.R_alloc | apply Kd.R_drewN | apply Kd.R_drew)); exact HO_11.out) (Kd.R_base ho0) hb); have n2_ := Aside0.mk (Kd.R_elder' (by (with_reducible repeat (first | apply Kd.R_alloc | apply Kd.R_drewN | apply Kd.R_drew)); exact HO_12.out) (Kd.R_base ho0) hb); have n3_ := Aside0.mk (Kd.R_lower (Kd.R_new' (Kd.R_new' (Kd.R_new' (Kd.R_mono (ok' := fun k_ => True) ho0 (fun _ hk_ => trivial)) (Kd.R_lt (by (with_reducible repeat (first | apply Kd.R_alloc | apply Kd.R_drewN | apply Kd.R_drew)); exact HO_10.out))) (Kd.R_lt (by (with_reducible repeat (first | apply Kd.R_alloc | apply Kd.R_drewN | apply Kd.R_drew)); exact HO_11.out))) (Kd.R_lt (by (with_reducible repeat (first | apply Kd.R_alloc | apply Kd.R_drewN | apply Kd.R_drew)); exact HO_12.out))) (below_size (by repeat (first | (with_reducible first | exact HB.out | apply below_alloc | apply pw_below_drewN | apply below_drew1 | refine below_set ?_ GE340.out) | exact HB.out)))); have n4_ := Aside0.mk (blk_below (g := gb340) (o := .cells #[.int .i64 a0_0, .int .u64 a0_1] 24 (0, 0)) (by (with_reducible repeat (first | refine blk_drewN ?_ _ | refine blk_drew ?_ | refine blk_alloc ?_ _)); exact BK340.out) hb); have n5_ := Aside0.mk (below_step (by repeat (first | (with_reducible first | exact HB.out | apply below_alloc | apply pw_below_drewN | apply below_drew1 | refine below_set ?_ GE340.out) | exact HB.out)) hb); clear HO_10; clear HO_11; clear HO_12; clear BK340; clear HB; have HO_10 := n0_; have HO_11 := n1_; have HO_12 := n2_; have HO364 := n3_; have BK340 := n4_; have HB := n5_; clear n0_ n1_ n2_ n3_ n4_ n5_; (try clear hb); (try clear hb2); (try clear hk); (try clear hi); (try clear ho0)))
       (try simp only [Act.put, List.setIfInBounds_toArray, List.set_cons_zero, List.set_cons_succ])
       go_cut [85] (fun v85 wc => ∃ (kq : Nat) (x85_31 : Bool), v85 = .bool x85_31 ∧ Aside0 (outpostlaw32_GaloisPoints.j2 kq l2 t341 x11_2 x85_31 a0_0 a0_1 = some r) ∧ Aside0 (kq ≤ k2) ∧ Aside0 (Kd.R (Kd.int .u8) 5 wc w.heap.size (fun _ => True) (.slice Ao34 x11_2.length co34) x11_2) ∧ Aside0 (wc.heap[gb340]? = some (.cells #[.int .i64 a0_0, .int .u64 a0_1] 24 (0, 0))) ∧ Aside0 (Below w.heap.size w wc))
       case first =>
        have H := HC32.out
        clear HC32
        replace H := Option.bind_eq_some_iff.mp H
        obtain ⟨t366, A370, H⟩ := H
        replace H : (if t366 = 0 then ((outpostlaw32_same.f t362 t350).bind fun t367 => (outpostlaw32_GaloisPoints.j2 k2 l2 t341 x11_2 (!t367) a0_0 a0_1)) else (outpostlaw32_GaloisPoints.j2 k2 l2 t341 x11_2 true a0_0 a0_1)) = some r := H
        have A37 := Aside0.mk A370
        clear A370
        by_cases c38 : t366 = 0
        ·rw [if_pos c38] at H
         have c38b0 : (t366 == 0) = true := beq_iff_eq.mpr c38
         have c38b1 : (t366 != 0) = false := bne_eq_false_iff_eq.mpr c38
         clear c38
         (first | rw [c38b0] | (simp only [i64_w, i32_w]; rw [c38b0]) | rw [c38b1] | skip)
         replace H := Option.bind_eq_some_iff.mp H
         obtain ⟨t367, A390, H⟩ := H
         replace H : (outpostlaw32_GaloisPoints.j2 k2 l2 t341 x11_2 (!t367) a0_0 a0_1) = some r := H
         have A39 := Aside0.mk A390
         clear A390
         have H' := Aside0.mk H
         clear H
         go_wp2_with (first | ((with_reducible refine gate_callee (f := 13) rfl ?_); refine goesL_ (some 78) rfl rfl Try.func13 (by kernel_rfl) rfl #[.int .i64 t365] rfl (by (try simp only [List.map_toArray, List.map_cons, List.map_nil]); first | done | rfl | (simp only [List.length_drop, List.length_take]; rfl) | (simp [Act.eval, IntKind.wrap_u8, IntKind.wrap_u32]; done)) ?_; (with_reducible refine (outpostlaw32_num.calls t365 t366 _ A37.out).mono ?_); rintro e w' ⟨rfl, ⟨nd, rfl⟩⟩; refine ⟨_, rfl, ?_⟩; obtain ⟨Ao40, co40, eo40⟩ := Kd.R_slice HO364.out; subst eo40) | (go_at_call 12; (with_reducible refine (outpostlaw32_same.calls _ _ t362 _ _ t350 t367 _ ?side1 ?side2 ?side3 ?side4 A39.out).mono ?_); (case side1 => repeat (first | exact (Kd.R_reads' HO364.out).2.2 | (with_reducible refine Kd.C_alloc ?_ _) | (with_reducible refine Kd.C_drewN ?_ _) | (with_reducible refine Kd.C_drew ?_))); (case side2 => exact (Kd.R_reads' HO364.out).2.1); (case side3 => repeat (first | exact (Kd.R_reads' HO_10.out).2.2 | (with_reducible refine Kd.C_alloc ?_ _) | (with_reducible refine Kd.C_drewN ?_ _) | (with_reducible refine Kd.C_drew ?_))); (case side4 => exact (Kd.R_reads' HO_10.out).2.1); rintro e w' ⟨rfl, ⟨nd, rfl⟩⟩))
         go_meet
         case rel => exact ⟨_, (!t367), (by first | rfl | (simp; done) | (simp [*]; done) | (simp [wrap64]; done)), H', ⟨by have := HJ4.out; have := HK2.out; first | omega | exact Nat.le_refl _⟩, ⟨by (with_reducible repeat (first | apply Kd.R_alloc | apply Kd.R_drewN | apply Kd.R_drew)); exact Kd.R_mono HO_11.out (fun _ hk => trivial)⟩, ⟨by (with_reducible repeat (first | refine blk_drewN ?_ _ | refine blk_drew ?_ | refine blk_alloc ?_ _)); exact BK340.out⟩, ⟨by repeat (first | (with_reducible first | exact HB.out | apply below_alloc | apply pw_below_drewN | apply below_drew1 | refine below_set ?_ GE340.out) | exact HB.out)⟩⟩
        ·rw [if_neg c38] at H
         exact outpostlaw32_GaloisPoints.no_j2 HR9_.out H
       case rest =>
        clear HC32
        (try clear c1); (try clear c2); (try clear p2); (try clear c3); (try clear p3); (try clear p6); (try clear c7); (try clear c8); (try clear c9); (try clear c10); (try clear c13); (try clear c16); (try clear c17); (try clear c19); (try clear c19b0); (try clear c22); (try clear c22b0); (try clear c22b1)
        (try clear c23); (try clear c24); (try clear c34); (try clear p34); (try clear c38); (try clear c38b0); (try clear c38b1); (try clear hcz7_0); (try clear hcz7_1); (try clear hfz7_0); (try clear hfz7_1); (try clear p2); (try clear p3); (try clear p6)
        obtain ⟨kq, x85_31, rfl, HA, HJ31, HO_11, BK340, HB⟩ := hcut
        cases kq with
        | zero => exact absurd HA.out (by simp [outpostlaw32_GaloisPoints.j2])
        | succ kj31 =>
         have H := HA.out
         clear HA
         simp only [outpostlaw32_GaloisPoints.j2] at H
         by_cases c41 : x85_31 = true
         ·subst c41
          exact outpostlaw32_GaloisPoints.no_false HR9_.out H
         ·replace c41 := Bool.eq_false_iff.mpr c41
          subst c41
          have H1 : ((outpostlaw32_row.f kj31 a0_0 a0_1 l2 (x11_2.length : Int)).bind fun t368 => (if 0 ≤ (t368.length : Int) then (if (t368.length : Int) ≤ (x11_2.length : Int) then ((galois_Tables_Through.f kj31 t341 (x11_2.take ((t368.length : Int) : Int).toNat) t368).bind fun bt376 => ((outpostlaw32_num.f bt376.2).bind fun t380 => (if t380 = 0 then (outpostlaw32_GaloisPoints.j3 kj31 t341 x11_2 t368 bt376.1 (decide ((bt376.1.length : Int) > (t368.length : Int)))) else (outpostlaw32_GaloisPoints.j3 kj31 t341 x11_2 t368 bt376.1 true)))) else (none)) else (none))) = some r := by rw [if_neg (show ¬ (false = true) by decide)] at H; exact H
          clear H
          have H := H1
          clear H1
          replace H := Option.bind_eq_some_iff.mp H
          obtain ⟨t368, A420, H⟩ := H
          replace H : (if 0 ≤ (t368.length : Int) then (if (t368.length : Int) ≤ (x11_2.length : Int) then ((galois_Tables_Through.f kj31 t341 (x11_2.take ((t368.length : Int) : Int).toNat) t368).bind fun bt376 => ((outpostlaw32_num.f bt376.2).bind fun t380 => (if t380 = 0 then (outpostlaw32_GaloisPoints.j3 kj31 t341 x11_2 t368 bt376.1 (decide ((bt376.1.length : Int) > (t368.length : Int)))) else (outpostlaw32_GaloisPoints.j3 kj31 t341 x11_2 t368 bt376.1 true)))) else (none)) else (none)) = some r := H
          have A42 := Aside0.mk A420
          clear A420
          by_cases c43 : 0 ≤ (t368.length : Int)
          ·rw [if_pos c43] at H
           have c43b0 := eq_true c43
           have c43b1 : decide (0 ≤ (t368.length : Int)) = true := decide_eq_true c43
           clear c43
           by_cases c44 : (t368.length : Int) ≤ (x11_2.length : Int)
           ·rw [if_pos c44] at H
            have c44b0 := eq_true c44
            have c44b1 : decide ((t368.length : Int) ≤ (x11_2.length : Int)) = true := decide_eq_true c44
            clear c44
            obtain ⟨y371, hy371⟩ : ∃ y_ : List Int, y_ = (x11_2.take ((t368.length : Int) : Int).toNat) := ⟨_, rfl⟩
            replace H : ((galois_Tables_Through.f kj31 t341 y371 t368).bind fun bt376 => ((outpostlaw32_num.f bt376.2).bind fun t380 => (if t380 = 0 then (outpostlaw32_GaloisPoints.j3 kj31 t341 x11_2 t368 bt376.1 (decide ((bt376.1.length : Int) > (t368.length : Int)))) else (outpostlaw32_GaloisPoints.j3 kj31 t341 x11_2 t368 bt376.1 true)))) = some r := by first | (rw [hy371]; with_reducible exact H) | (have H2_ := (Option.bind_some _ _).symm.trans H; rw [hy371]; with_reducible exact H2_) | (have H2_ := (Option.bind_some _ _).symm.trans H; with_reducible exact H2_) | with_reducible exact H | (rw [hy371]; exact H) | exact H
            have Ny371 := Aside0.mk hy371
            clear hy371
            replace H := Option.bind_eq_some_iff.mp H
            obtain ⟨⟨t376, t379⟩, A450, H⟩ := H
            replace H : ((outpostlaw32_num.f t379).bind fun t380 => (if t380 = 0 then (outpostlaw32_GaloisPoints.j3 kj31 t341 x11_2 t368 t376 (decide ((t376.length : Int) > (t368.length : Int)))) else (outpostlaw32_GaloisPoints.j3 kj31 t341 x11_2 t368 t376 true))) = some r := H
            have A45 := Aside0.mk A450
            clear A450
            have HC46 := Aside0.mk H
            clear H
            have hcz47_0 : wc.cell? ⟨gb340, 0, none⟩ = some (.int .i64 a0_0) := (blk_cell BK340.out 0).trans rfl
            have hcz47_1 : wc.cell? ⟨gb340, 1, none⟩ = some (.int .u64 a0_1) := (blk_cell BK340.out 1).trans rfl
            have hfz47_0 := blk_frozen BK340.out 0
            have hfz47_1 := blk_frozen BK340.out 1
            go_upto_region 19 with (first | ((with_reducible refine gate_callee (f := 17) rfl ?_); refine goesL_ (some 90) rfl rfl Try.func17 (by kernel_rfl) rfl #[.agg #[.int .i64 a0_0, .int .u64 a0_1], .slice A2 l2.length c2, .int .i64 (x11_2.length : Int)] rfl (by (try simp only [List.map_toArray, List.map_cons, List.map_nil]); first | done | rfl | (simp only [List.length_drop, List.length_take]; rfl) | (simp [Act.eval, IntKind.wrap_u8, IntKind.wrap_u32]; done)) ?_; (with_reducible refine (outpostlaw32_row.calls kj31 a0_0 a0_1 _ _ l2 (x11_2.length : Int) t368 _ ?side1 ?side2 A42.out).mono ?_); (case side1 => repeat (first | exact (Kd.C_below HR2.out HB.out) | (with_reducible refine Kd.C_alloc ?_ _) | (with_reducible refine Kd.C_drewN ?_ _) | (with_reducible refine Kd.C_drew ?_))); (case side2 => exact HC2.out); rintro e w48 ⟨v369, rfl, ho0, hb⟩; refine ⟨_, rfl, ?_⟩; have n0_ := Aside0.mk (Kd.R_elder' (by (with_reducible repeat (first | apply Kd.R_alloc | apply Kd.R_drewN | apply Kd.R_drew)); exact HO_11.out) (Kd.R_base ho0) hb); have n1_ := Aside0.mk (Kd.R_lower (Kd.R_new' ho0 (Kd.R_lt (by (with_reducible repeat (first | apply Kd.R_alloc | apply Kd.R_drewN | apply Kd.R_drew)); exact HO_11.out))) (below_size (by repeat (first | (with_reducible first | exact HB.out | apply below_alloc | apply pw_below_drewN | apply below_drew1 | refine below_set ?_ GE340.out) | exact HB.out)))); have n2_ := Aside0.mk (blk_below (g := gb340) (o := .cells #[.int .i64 a0_0, .int .u64 a0_1] 24 (0, 0)) (by (with_reducible repeat (first | refine blk_drewN ?_ _ | refine blk_drew ?_ | refine blk_alloc ?_ _)); exact BK340.out) hb); have n3_ := Aside0.mk (below_step (by repeat (first | (with_reducible first | exact HB.out | apply below_alloc | apply pw_below_drewN | apply below_drew1 | refine below_set ?_ GE340.out) | exact HB.out)) hb); clear HO_11; clear BK340; clear HB; have HO_11 := n0_; have HO370 := n1_; have BK340 := n2_; have HB := n3_; clear n0_ n1_ n2_ n3_; (try clear hb); (try clear hb2); (try clear hk); (try clear hi); (try clear ho0); obtain ⟨Ao49, co49, eo49⟩ := Kd.R_slice HO370.out; subst eo49; have q50 : ((t368.length : Int) : Int) ≤ ((x11_2.length : Int) : Int) := of_decide_eq_true (by first | (with_reducible assumption) | assumption); obtain ⟨i050, hi050, _, hsz50, _⟩ := info_parts info5; have hroom50 : x11_2.length ≤ co34 := (Kd.R_reads' HO_11.out).2.1; have hC50 : Kd.F (Kd.int .u8) _ _ Ao34 x11_2.length x11_2 := (Kd.V_at (base := w.heap.size) (Kd.R_V (Kd.R_types (HO_11.out) BK340.out (by decide)))).2.2; have hcut50 := cut_to (P := Try.prog) 25 5 .i64 Try.underlying25 hi050 Ao34 x11_2.length co34 (t368.length : Int) (of_decide_eq_true (by first | (with_reducible assumption) | assumption)) q50 hroom50; have hr50 := Kd.F_take (m := ((t368.length : Int) : Int).toNat) hC50 (by omega); have hy50 : y371.length = ((t368.length : Int) : Int).toNat := (by rw [Ny371.out, List.length_take]; omega); rw [← Ny371.out] at hr50; rw [← hy50] at hcut50; have HO375 := Aside0.mk (show Kd.V (Kd.int .u8) 5 _ w.heap.size _ (.slice Ao34 y371.length co34) y371 from Kd.V_mk (by omega) hr50); have HC375 := Aside0.mk (show y371.length ≤ co34 from by omega); clear hr50 hC50 hroom50 hi050 hsz50; have KY50 := Aside0.mk hy50; clear hy50; replace q50 := eq_true q50) | ((with_reducible refine gate_callee (f := 10) rfl ?_); refine goesL_ (some 98) rfl rfl Try.func10 (by kernel_rfl) rfl #[.pointer Ap342, .slice Ao34 y371.length co34, .slice Ao49 t368.length co49] rfl (by (try simp only [List.map_toArray, List.map_cons, List.map_nil]); first | done | rfl | (simp only [List.length_drop, List.length_take]; rfl) | (simp [Act.eval, IntKind.wrap_u8, IntKind.wrap_u32]; done)) ?_; (with_reducible refine (galois_Tables_Through.calls kj31 _ t341 (fun k_ => ((True ∧ some k_ ≠ (.slice Ao49 t368.length co49 : Value).ownBlock) ∧ k_ ≠ gb340)) _ _ y371 (fun k_ => some k_ = (.slice Ao49 t368.length co49 : Value).ownBlock) _ _ t368 t376 t379 _ ?side1 ?side2 ?side3 A45.out).mono ?_); (case side1 => exact (gal_OK_below HT343.out HB.out)); (case side2 => exact HO375.out); (case side3 => exact Kd.R_V (Kd.R_tight rfl (Kd.R_types (HO370.out) BK340.out (by decide)))); rintro e w51 ⟨v377, rfl, ho0, hb⟩; refine ⟨_, rfl, ?_⟩; have n0_ := Aside0.mk (Kd.R_elder' (by (with_reducible repeat (first | apply Kd.R_alloc | apply Kd.R_drewN | apply Kd.R_drew)); exact HO_11.out) (Kd.R_base ho0) hb); have n1_ := Aside0.mk (Kd.R_elder' (by (with_reducible repeat (first | apply Kd.R_alloc | apply Kd.R_drewN | apply Kd.R_drew)); exact HO370.out) (Kd.R_base ho0) hb); have n2_ := Aside0.mk (Kd.V_elder' (by (with_reducible repeat (first | apply Kd.V_alloc | apply Kd.V_drewN | apply Kd.V_drew)); exact HO375.out) (Kd.R_base ho0) hb); have n3_ := Aside0.mk (Kd.R_lower (Kd.R_new' (Kd.R_new' (Kd.R_mono (ok' := fun k_ => True) ho0 (fun _ hk_ => trivial)) (Kd.R_lt (by (with_reducible repeat (first | apply Kd.R_alloc | apply Kd.R_drewN | apply Kd.R_drew)); exact HO_11.out))) (Kd.R_lt (by (with_reducible repeat (first | apply Kd.R_alloc | apply Kd.R_drewN | apply Kd.R_drew)); exact HO370.out))) (below_size (by repeat (first | (with_reducible first | exact HB.out | apply below_alloc | apply pw_below_drewN | apply below_drew1 | refine below_set ?_ GE340.out) | exact HB.out)))); have n4_ := Aside0.mk (blk_below (g := gb340) (o := .cells #[.int .i64 a0_0, .int .u64 a0_1] 24 (0, 0)) (by (with_reducible repeat (first | refine blk_drewN ?_ _ | refine blk_drew ?_ | refine blk_alloc ?_ _)); exact BK340.out) hb); have n5_ := Aside0.mk (below_step (by repeat (first | (with_reducible first | exact HB.out | apply below_alloc | apply pw_below_drewN | apply below_drew1 | refine below_set ?_ GE340.out) | exact HB.out)) hb); clear HO_11; clear HO370; clear HO375; clear BK340; clear HB; have HO_11 := n0_; have HO370 := n1_; have HO375 := n2_; have HO378 := n3_; have BK340 := n4_; have HB := n5_; clear n0_ n1_ n2_ n3_ n4_ n5_; (try clear hb); (try clear hb2); (try clear hk); (try clear hi); (try clear ho0)))
            (try simp only [Act.put, List.setIfInBounds_toArray, List.set_cons_zero, List.set_cons_succ])
            go_cut [110] (fun v110 wc => ∃ (kq : Nat) (x110_45 : Bool), v110 = .bool x110_45 ∧ Aside0 (outpostlaw32_GaloisPoints.j3 kq t341 x11_2 t368 t376 x110_45 = some r) ∧ Aside0 (kq ≤ kj31) ∧ Aside0 (Kd.R (Kd.int .u8) 5 wc w.heap.size (fun k_ => some k_ ≠ ((.slice Ao49 t368.length co49) : Value).ownBlock ∧ some k_ ≠ (v377 : Value).ownBlock) (.slice Ao34 x11_2.length co34) x11_2) ∧ Aside0 (Kd.R (Kd.int .u8) 5 wc w.heap.size (fun k_ => some k_ ≠ ((.slice Ao34 x11_2.length co34) : Value).ownBlock ∧ some k_ ≠ (v377 : Value).ownBlock) (.slice Ao49 t368.length co49) t368) ∧ Aside0 (Kd.R (Kd.int .u8) 5 wc w.heap.size (fun k_ => some k_ ≠ ((.slice Ao34 x11_2.length co34) : Value).ownBlock ∧ some k_ ≠ ((.slice Ao49 t368.length co49) : Value).ownBlock) v377 t376) ∧ Aside0 (wc.heap[gb340]? = some (.cells #[.int .i64 a0_0, .int .u64 a0_1] 24 (0, 0))) ∧ Aside0 (Below w.heap.size w wc))
            case first =>
             have H := HC46.out
             clear HC46
             replace H := Option.bind_eq_some_iff.mp H
             obtain ⟨t380, A520, H⟩ := H
             replace H : (if t380 = 0 then (outpostlaw32_GaloisPoints.j3 kj31 t341 x11_2 t368 t376 (decide ((t376.length : Int) > (t368.length : Int)))) else (outpostlaw32_GaloisPoints.j3 kj31 t341 x11_2 t368 t376 true)) = some r := H
             have A52 := Aside0.mk A520
             clear A520
             by_cases c53 : t380 = 0
             ·rw [if_pos c53] at H
              have c53b0 : (t380 == 0) = true := beq_iff_eq.mpr c53
              have c53b1 : (t380 != 0) = false := bne_eq_false_iff_eq.mpr c53
              clear c53
              (first | rw [c53b0] | (simp only [i64_w, i32_w]; rw [c53b0]) | rw [c53b1] | skip)
              have H' := Aside0.mk H
              clear H
              go_wp2_with (first | ((with_reducible refine gate_callee (f := 13) rfl ?_); refine goesL_ (some 102) rfl rfl Try.func13 (by kernel_rfl) rfl #[.int .i64 t379] rfl (by (try simp only [List.map_toArray, List.map_cons, List.map_nil]); first | done | rfl | (simp only [List.length_drop, List.length_take]; rfl) | (simp [Act.eval, IntKind.wrap_u8, IntKind.wrap_u32]; done)) ?_; (with_reducible refine (outpostlaw32_num.calls t379 t380 _ A52.out).mono ?_); rintro e w' ⟨rfl, ⟨nd, rfl⟩⟩; refine ⟨_, rfl, ?_⟩; obtain ⟨Ao54, co54, eo54⟩ := Kd.R_slice HO378.out; subst eo54))
              go_meet
              case rel => exact ⟨_, (decide ((t376.length : Int) > (t368.length : Int))), (by first | rfl | (simp; done) | (simp [*]; done) | (simp [wrap64]; done)), H', ⟨by have := HJ4.out; have := HK2.out; have := HJ31.out; first | omega | exact Nat.le_refl _⟩, ⟨by (with_reducible repeat (first | apply Kd.R_alloc | apply Kd.R_drewN | apply Kd.R_drew)); exact Kd.R_mono HO_11.out (fun _ hk => ⟨hk.1.2, hk.2⟩)⟩, ⟨by (with_reducible repeat (first | apply Kd.R_alloc | apply Kd.R_drewN | apply Kd.R_drew)); exact Kd.R_mono HO370.out (fun _ hk => ⟨hk.1.2, hk.2⟩)⟩, ⟨by (with_reducible repeat (first | apply Kd.R_alloc | apply Kd.R_drewN | apply Kd.R_drew)); exact Kd.R_mono HO378.out (fun _ hk => ⟨hk.1.2, hk.2⟩)⟩, ⟨by (with_reducible repeat (first | refine blk_drewN ?_ _ | refine blk_drew ?_ | refine blk_alloc ?_ _)); exact BK340.out⟩, ⟨by repeat (first | (with_reducible first | exact HB.out | apply below_alloc | apply pw_below_drewN | apply below_drew1 | refine below_set ?_ GE340.out) | exact HB.out)⟩⟩
             ·rw [if_neg c53] at H
              exact outpostlaw32_GaloisPoints.no_j3 HR9_.out H
            case rest =>
             clear HC46
             (try clear c1); (try clear c2); (try clear p2); (try clear c3); (try clear p3); (try clear c4); (try clear c5); (try clear q5); (try clear p6); (try clear c7); (try clear c8); (try clear c9); (try clear c10); (try clear c13); (try clear c16); (try clear c17); (try clear c19); (try clear c19b0)
             (try clear c22); (try clear c22b0); (try clear c22b1); (try clear c23); (try clear c24); (try clear c34); (try clear p34); (try clear c38); (try clear c38b0); (try clear c38b1); (try clear c41); (try clear c43); (try clear c43b0); (try clear c43b1); (try clear c44); (try clear c44b0); (try clear c44b1)
             (try clear q50); (try clear c53); (try clear c53b0); (try clear c53b1); (try clear hcz47_0); (try clear hcz47_1); (try clear hcz7_0); (try clear hcz7_1); (try clear hfz47_0); (try clear hfz47_1); (try clear hfz7_0); (try clear hfz7_1); (try clear p2); (try clear p3); (try clear p34); (try clear p6)
             try clear q50
             obtain ⟨kq, x110_45, rfl, HA, HJ45, HO_11, HO_18, HO_19, BK340, HB⟩ := hcut
             cases kq with
             | zero => exact absurd HA.out (by simp [outpostlaw32_GaloisPoints.j3])
             | succ kj45 =>
              have H := HA.out
              clear HA
              simp only [outpostlaw32_GaloisPoints.j3] at H
              by_cases c55 : x110_45 = true
              ·subst c55
               exact outpostlaw32_GaloisPoints.no_false HR9_.out H
              ·replace c55 := Bool.eq_false_iff.mpr c55
               subst c55
               have H1 : (outpostlaw32_GaloisPoints.l1 kj45 t341 x11_2 t368 t376 0) = some r := by rw [if_neg (show ¬ (false = true) by decide)] at H; exact H
               clear H
               have H := H1
               clear H1
               have H' := Aside0.mk H
               clear H
               go_wp2
               go_loopg [21] kj45 (fun kq v21 w' => ∃ (x21_5 : Int), v21 = .int .i64 x21_5 ∧ Aside0 (outpostlaw32_GaloisPoints.l1 kq t341 x11_2 t368 t376 x21_5 = some r) ∧ Aside0 (kq ≤ kj45) ∧ Aside0 (Kd.R (Kd.int .u8) 5 w' w.heap.size (fun k_ => some k_ ≠ ((.slice Ao49 t368.length co49) : Value).ownBlock ∧ some k_ ≠ (v377 : Value).ownBlock) (.slice Ao34 x11_2.length co34) x11_2) ∧ Aside0 (Kd.R (Kd.int .u8) 5 w' w.heap.size (fun k_ => some k_ ≠ ((.slice Ao34 x11_2.length co34) : Value).ownBlock ∧ some k_ ≠ (v377 : Value).ownBlock) (.slice Ao49 t368.length co49) t368) ∧ Aside0 (Kd.R (Kd.int .u8) 5 w' w.heap.size (fun k_ => some k_ ≠ ((.slice Ao34 x11_2.length co34) : Value).ownBlock ∧ some k_ ≠ ((.slice Ao49 t368.length co49) : Value).ownBlock) v377 t376) ∧ Aside0 (w'.heap[gb340]? = some (.cells #[.int .i64 a0_0, .int .u64 a0_1] 24 (0, 0))) ∧ Aside0 (Below w.heap.size w w'))
               case atStart => exact ⟨(0), (by first | rfl | (simp; done) | (simp [*]; done) | (simp [wrap64]; done)), H', ⟨Nat.le_refl _⟩, ⟨by (with_reducible repeat (first | apply Kd.R_alloc | apply Kd.R_drewN | apply Kd.R_drew)); exact HO_11.out⟩, ⟨by (with_reducible repeat (first | apply Kd.R_alloc | apply Kd.R_drewN | apply Kd.R_drew)); exact HO_18.out⟩, ⟨by (with_reducible repeat (first | apply Kd.R_alloc | apply Kd.R_drewN | apply Kd.R_drew)); exact HO_19.out⟩, ⟨by (with_reducible repeat (first | refine blk_drewN ?_ _ | refine blk_drew ?_ | refine blk_alloc ?_ _)); exact BK340.out⟩, ⟨by repeat (first | (with_reducible first | exact HB.out | apply below_alloc | apply pw_below_drewN | apply below_drew1 | refine below_set ?_ GE340.out) | exact HB.out)⟩⟩
               case round =>
                (try clear hHeld)
                clear H'
                (try clear c1); (try clear c2); (try clear p2); (try clear c3); (try clear p3); (try clear c4); (try clear c5); (try clear q5); (try clear p6); (try clear c7); (try clear c8); (try clear c9); (try clear c10); (try clear c13); (try clear c16); (try clear c17); (try clear c19); (try clear c19b0)
                (try clear c22); (try clear c22b0); (try clear c22b1); (try clear c23); (try clear c24); (try clear c34); (try clear p34); (try clear c38); (try clear c38b0); (try clear c38b1); (try clear c41); (try clear c43); (try clear c43b0); (try clear c43b1); (try clear c44); (try clear c44b0)
                (try clear c44b1); (try clear q50); (try clear c53); (try clear c53b0); (try clear c53b1); (try clear c55); (try clear hcz47_0); (try clear hcz47_1); (try clear hcz7_0); (try clear hcz7_1); (try clear hfz47_0); (try clear hfz47_1); (try clear hfz7_0); (try clear hfz7_1); (try clear p2)
                (try clear p3); (try clear p34); (try clear p6); (try clear q5); (try clear q50)
                obtain ⟨x21_5, rfl, HA, HK5, HO_11, HO_18, HO_19, BK340, HB⟩ := hrel
                cases gk with
                | zero => exact absurd HA.out (by simp [outpostlaw32_GaloisPoints.l1])
                | succ k5 =>
                 have H := HA.out
                 clear HA
                 simp only [outpostlaw32_GaloisPoints.l1] at H
                 by_cases c56 : x21_5 < (t368.length : Int)
                 ·rw [if_pos c56] at H
                  have c56b0 : decide (x21_5 < (t368.length : Int)) = true := decide_eq_true c56
                  clear c56
                  by_cases c57 : 0 ≤ x21_5
                  ·rw [if_pos c57] at H
                   have c57b0 : decide (0 ≤ x21_5) = true := decide_eq_true c57
                   clear c57
                   by_cases c58 : x21_5 < (x11_2.length : Int)
                   ·rw [if_pos c58] at H
                    have c58b0 : decide (x21_5 < (x11_2.length : Int)) = true := decide_eq_true c58
                    clear c58
                    replace H := Option.bind_eq_some_iff.mp H
                    obtain ⟨⟨t382, t383⟩, A590, H⟩ := H
                    replace H : ((outpostlaw32_num.f t383).bind fun t384 => (if t384 = 0 then (if t382 = (rd t368 x21_5) then (outpostlaw32_GaloisPoints.l1 k5 t341 x11_2 t368 t376 (wrap64 (x21_5 + 1))) else (some false)) else (some false))) = some r := H
                    have A59 := Aside0.mk A590
                    clear A590
                    replace H := Option.bind_eq_some_iff.mp H
                    obtain ⟨t384, A600, H⟩ := H
                    replace H : (if t384 = 0 then (if t382 = (rd t368 x21_5) then (outpostlaw32_GaloisPoints.l1 k5 t341 x11_2 t368 t376 (wrap64 (x21_5 + 1))) else (some false)) else (some false)) = some r := H
                    have A60 := Aside0.mk A600
                    clear A600
                    by_cases c61 : t384 = 0
                    ·rw [if_pos c61] at H
                     have c61b0 : (t384 == 0) = true := beq_iff_eq.mpr c61
                     have c61b1 : (t384 != 0) = false := bne_eq_false_iff_eq.mpr c61
                     clear c61
                     by_cases c62 : t382 = (rd t368 x21_5)
                     ·rw [if_pos c62] at H
                      have c62b0 : (t382 == (rd t368 x21_5)) = true := beq_iff_eq.mpr c62
                      have c62b1 : (t382 != (rd t368 x21_5)) = false := bne_eq_false_iff_eq.mpr c62
                      clear c62
                      have H' := Aside0.mk H
                      clear H
                      have p381 : 0 ≤ (x21_5 : Int) := of_decide_eq_true (by first | (with_reducible assumption) | assumption)
                      have q381 : x21_5 < (x11_2.length : Int) := of_decide_eq_true (by first | (with_reducible assumption) | assumption)
                      obtain ⟨ad381, e381, hx381_0⟩ := Kd.at_int (Kd.R_reads' HO_11.out).2.2 x21_5 p381 q381
                      cases e381
                      replace p381 := eq_true p381
                      replace q381 := eq_true q381
                      obtain ⟨Ao63, co63, eo63⟩ := Kd.R_slice HO_19.out
                      subst eo63
                      go_wp2_with (first | ((with_reducible refine gate_callee (f := 23) rfl ?_); refine goesL_ (some 124) rfl rfl Try.func23 (by kernel_rfl) rfl #[.pointer Ap342, .slice Ao63 t376.length co63, .int .u8 (rd x11_2 x21_5)] rfl (by (try simp only [List.map_toArray, List.map_cons, List.map_nil]); first | done | rfl | (simp only [List.length_drop, List.length_take]; rfl) | (simp [Act.eval, IntKind.wrap_u8, IntKind.wrap_u32]; done)) ?_; (with_reducible refine (galois_Tables_Eval.calls k5 _ t341 (fun k_ => some k_ = (.slice Ao63 t376.length co63 : Value).ownBlock) _ _ t376 (rd x11_2 x21_5) t382 t383 _ ?side1 ?side2 A59.out).mono ?_); (case side1 => exact (gal_OK_below HT343.out HB.out)); (case side2 => exact Kd.R_V (Kd.R_tight rfl (Kd.R_types (HO_19.out) BK340.out (by decide)))); rintro e w64 ⟨rfl, hb⟩; refine ⟨_, rfl, ?_⟩; have n0_ := Aside0.mk (Kd.R_below (by (with_reducible repeat (first | apply Kd.R_alloc | apply Kd.R_drewN | apply Kd.R_drew)); exact HO_11.out) hb); have n1_ := Aside0.mk (Kd.R_below (by (with_reducible repeat (first | apply Kd.R_alloc | apply Kd.R_drewN | apply Kd.R_drew)); exact HO_18.out) hb); have n2_ := Aside0.mk (Kd.R_below (by (with_reducible repeat (first | apply Kd.R_alloc | apply Kd.R_drewN | apply Kd.R_drew)); exact HO_19.out) hb); have n3_ := Aside0.mk (blk_below (g := gb340) (o := .cells #[.int .i64 a0_0, .int .u64 a0_1] 24 (0, 0)) (by (with_reducible repeat (first | refine blk_drewN ?_ _ | refine blk_drew ?_ | refine blk_alloc ?_ _)); exact BK340.out) hb); have n4_ := Aside0.mk (below_step (by repeat (first | (with_reducible first | exact HB.out | apply below_alloc | apply pw_below_drewN | apply below_drew1 | refine below_set ?_ GE340.out) | exact HB.out)) hb); clear HO_11; clear HO_18; clear HO_19; clear BK340; clear HB; have HO_11 := n0_; have HO_18 := n1_; have HO_19 := n2_; have BK340 := n3_; have HB := n4_; clear n0_ n1_ n2_ n3_ n4_; (try clear hb); (try clear hb2); (try clear hk); (try clear hi)) | ((with_reducible refine gate_callee (f := 13) rfl ?_); refine goesL_ (some 128) rfl rfl Try.func13 (by kernel_rfl) rfl #[.int .i64 t383] rfl (by (try simp only [List.map_toArray, List.map_cons, List.map_nil]); first | done | rfl | (simp only [List.length_drop, List.length_take]; rfl) | (simp [Act.eval, IntKind.wrap_u8, IntKind.wrap_u32]; done)) ?_; (with_reducible refine (outpostlaw32_num.calls t383 t384 _ A60.out).mono ?_); rintro e w' ⟨rfl, ⟨nd, rfl⟩⟩; refine ⟨_, rfl, ?_⟩; have p385 : 0 ≤ (x21_5 : Int) := of_decide_eq_true (by first | (with_reducible assumption) | assumption); have q385 : x21_5 < (t368.length : Int) := of_decide_eq_true (by first | (with_reducible assumption) | assumption); obtain ⟨ad385, e385, hx385_0⟩ := Kd.at_int (Kd.R_reads' HO_18.out).2.2 x21_5 p385 q385; cases e385; replace p385 := eq_true p385; replace q385 := eq_true q385))
                      go_roundg k5
                      case measure => have := HJ4.out; have := HK2.out; have := HJ31.out; have := HJ45.out; have := HK5.out; omega
                      case rel => exact ⟨(wrap64 (x21_5 + 1)), (by first | rfl | (simp; done) | (simp [*]; done) | (simp [wrap64]; done)), H', ⟨by have := HJ4.out; have := HK2.out; have := HJ31.out; have := HJ45.out; have := HK5.out; omega⟩, ⟨by (with_reducible repeat (first | apply Kd.R_alloc | apply Kd.R_drewN | apply Kd.R_drew)); exact HO_11.out⟩, ⟨by (with_reducible repeat (first | apply Kd.R_alloc | apply Kd.R_drewN | apply Kd.R_drew)); exact HO_18.out⟩, ⟨by (with_reducible repeat (first | apply Kd.R_alloc | apply Kd.R_drewN | apply Kd.R_drew)); exact HO_19.out⟩, ⟨by (with_reducible repeat (first | refine blk_drewN ?_ _ | refine blk_drew ?_ | refine blk_alloc ?_ _)); exact BK340.out⟩, ⟨by repeat (first | (with_reducible first | exact HB.out | apply below_alloc | apply pw_below_drewN | apply below_drew1 | refine below_set ?_ GE340.out) | exact HB.out)⟩⟩
                     ·rw [if_neg c62] at H
                      exact outpostlaw32_GaloisPoints.no_false HR9_.out H
                    ·rw [if_neg c61] at H
                     exact outpostlaw32_GaloisPoints.no_false HR9_.out H
                   ·rw [if_neg c58] at H
                    exact absurd H (by simp)
                  ·rw [if_neg c57] at H
                   exact absurd H (by simp)
                 ·rw [if_neg c56] at H
                  have c56b0 : decide (x21_5 < (t368.length : Int)) = false := decide_eq_false c56
                  clear c56
                  obtain rfl := Option.some.inj H
                  go_wp2
                  go_ret
                  exact ⟨by first | rfl | (simp [errW_none, errW_some] <;> rfl) | (simp [*, errW_none, errW_some] <;> rfl), below_step HB00.out (by repeat (first | (with_reducible first | exact HB.out | apply below_alloc | apply pw_below_drewN | apply below_drew1 | refine below_set ?_ GE340.out) | exact HB.out))⟩
           ·rw [if_neg c44] at H
            exact absurd H (by simp)
          ·rw [if_neg c43] at H
           exact absurd H (by simp)

/-- THE ONE PURE STATEMENT of outpostlaw32_GaloisPoints: yours. -/
def outpostlaw32_GaloisPoints.Pure : Prop := ∀ (a0_0 : Int) (a0_1 : Int) (l1 : List Int) (l2 : List Int), (Lit.int .i64 a0_0).wf = true → (Lit.int .u64 a0_1).wf = true → l1.length ≤ maxLen → l1.length * 1 ≤ 140737488351232 → (∀ x ∈ l1, (Lit.int .u8 x).wf = true) → l2.length ≤ maxLen → l2.length * 1 ≤ 140737488351232 → (∀ x ∈ l2, (Lit.int .u8 x).wf = true) → ∃ k, outpostlaw32_GaloisPoints.f k a0_0 a0_1 l1 l2 = some true
theorem outpostlaw32_GaloisPoints.walk (P : outpostlaw32_GaloisPoints.Pure) (a0_0 : Int) (a0_1 : Int) (a1 : Option Addr) (len1 cap1 : Nat) (z1 : List Int) (a2 : Option Addr) (len2 cap2 : Nat) (z2 : List Int) (w : World) (w0_0 : (Lit.int .i64 a0_0).wf = true) (w0_1 : (Lit.int .u64 a0_1).wf = true) (w1 : (a1 = none ∧ len1 = 0 ∧ cap1 = 0 ∧ z1 = []) ∨ ∃ x, a1 = some x ∧ len1 ≤ cap1 ∧ cap1 ≤ maxLen ∧ z1.length = cap1 ∧ (∀ i, i < z1.length → w.cell? (x.add i) = some (.int .u8 (z1.getD i 0))) ∧ ∀ n ∈ z1, (Lit.int .u8 n).wf = true) (y1 : len1 * 1 ≤ 140737488351232) (w2 : (a2 = none ∧ len2 = 0 ∧ cap2 = 0 ∧ z2 = []) ∨ ∃ x, a2 = some x ∧ len2 ≤ cap2 ∧ cap2 ≤ maxLen ∧ z2.length = cap2 ∧ (∀ i, i < z2.length → w.cell? (x.add i) = some (.int .u8 (z2.getD i 0))) ∧ ∀ n ∈ z2, (Lit.int .u8 n).wf = true) (y2 : len2 * 1 ≤ 140737488351232) :
  Calls Try.prog 7 #[.agg #[.int .i64 a0_0, .int .u64 a0_1], .slice a1 len1 cap1, .slice a2 len2 cap2] w fun e w' => e = .returned (.bool true) ∧ Below w.heap.size w w' := by
 obtain ⟨l1, rfl, hr1, hm1, hw1, hc1⟩ := ReadsInt.ofRowC w1
 obtain ⟨l2, rfl, hr2, hm2, hw2, hc2⟩ := ReadsInt.ofRowC w2
 obtain ⟨k, h⟩ := P a0_0 a0_1 l1 l2 w0_0 w0_1 hm1 y1 hw1 hm2 y2 hw2
 refine (outpostlaw32_GaloisPoints.calls k a0_0 a0_1 _ _ l1 _ _ l2 true rfl w (Kd.C_of_reads (d := (0 : Int)) (h1 := fun _ => rfl) hr1) hc1 (Kd.C_of_reads (d := (0 : Int)) (h1 := fun _ => rfl) hr2) hc2 h).mono ?_
 rintro e w' ⟨rfl, hd⟩
 exact ⟨rfl, hd⟩


end Go.Proofs.Ytjdkamhnbheofaa.P

-- squeezed
