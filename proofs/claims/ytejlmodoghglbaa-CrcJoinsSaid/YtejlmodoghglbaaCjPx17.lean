-- written by mk.sh, a program of this session, over the kit's print
import Derived.Test.YtejlmodoghglbaaCjPx0
import Derived.Test.YtejlmodoghglbaaCjPx2
import Derived.Test.YtejlmodoghglbaaCjPx3
import Derived.Test.YtejlmodoghglbaaCjPx5
import Derived.Test.YtejlmodoghglbaaCjPx9
import Derived.Test.YtejlmodoghglbaaCjPx16
namespace Go.Proofs.Ytejlmodoghglbaa.P
open Go.RowKit Go.Proofs.YtejlmodoghglbaaW.PrintWords Go.Proofs.YtejlmodoghglbaaW.PrintLast Go.Proofs.YtejlmodoghglbaaW.PrintMore
attribute [local go_sem] max2_int min2_int max_two min_two max_three min_three max_four min_four   -- for this text's walks alone
set_option linter.unusedVariables false
set_option linter.unusedSimpArgs false

/-! ### outpostref02_PowMod: function 54 -/
def outpostref02_PowMod.l0 : Nat → Int → Int → Int → Int → Int → Option (Int × Int)
  | 0, _, _, _, _, _ => none
  | k + 1, x0, x1, x2, x9, x10 => if x10 ≥ 0 then ((outpostref02_MulMod.f k x9 x9 x2).bind fun bt344 => ((outpostref02_Bit.f x1 x10).bind fun t346 => (if t346 = 1 then ((outpostref02_MulMod.f k bt344.1 x0 x2).bind fun bt347 => (outpostref02_PowMod.l0 k x0 x1 x2 bt347.1 (wrap64 (x10 - 1)))) else (outpostref02_PowMod.l0 k x0 x1 x2 bt344.1 (wrap64 (x10 - 1)))))) else (some (x9, 0))
def outpostref02_PowMod.f (k : Nat) (a0 : Int) (a1 : Int) (a2 : Int) : Option (Int × Int) := if a2 = 0 then (some (0, 20)) else ((outpostref02_Whole.f k 0 1 a2).bind fun bt342 => (outpostref02_PowMod.l0 k a0 a1 a2 bt342.2 63))
theorem outpostref02_PowMod.mono_l : ∀ k, (∀ y0 y1 y2 y3 y4, LeO (outpostref02_PowMod.l0 k y0 y1 y2 y3 y4) (outpostref02_PowMod.l0 (k + 1) y0 y1 y2 y3 y4))
  | 0 => fun _ _ _ _ _ r h => by simp [outpostref02_PowMod.l0] at h
  | k + 1 => by
    have ih0 := outpostref02_PowMod.mono_l k
    · intro y0 y1 y2 y3 y4
      unfold outpostref02_PowMod.l0
      repeat' first
      | (with_reducible exact ih0 _ _ _ _ _)
      | (with_reducible exact outpostref02_MulMod.mono _ _ _ _)
      | (with_reducible exact outpostref02_Whole.mono _ _ _ _)
      | (with_reducible exact LeO.refl _)
      | (with_reducible exact LeO.none _)
      | (with_reducible refine LeO.ite ?_ ?_)
      | (with_reducible refine LeO.bind ?_ (fun _ => ?_))
      | exact ih0 _ _ _ _ _
      | exact outpostref02_MulMod.mono _ _ _ _
      | exact outpostref02_Whole.mono _ _ _ _
      | exact LeO.none _
      | refine LeO.ite ?_ ?_
      | refine LeO.bind ?_ (fun _ => ?_)
theorem outpostref02_PowMod.mono : ∀ a0 a1 a2 k, LeO (outpostref02_PowMod.f k a0 a1 a2) (outpostref02_PowMod.f (k + 1) a0 a1 a2) := by
  intro a0 a1 a2 k
  have ih0 := outpostref02_PowMod.mono_l k
  unfold outpostref02_PowMod.f
  repeat' first
      | (with_reducible exact ih0 _ _ _ _ _)
      | (with_reducible exact outpostref02_MulMod.mono _ _ _ _)
      | (with_reducible exact outpostref02_Whole.mono _ _ _ _)
      | (with_reducible exact LeO.refl _)
      | (with_reducible exact LeO.none _)
      | (with_reducible refine LeO.ite ?_ ?_)
      | (with_reducible refine LeO.bind ?_ (fun _ => ?_))
      | exact ih0 _ _ _ _ _
      | exact outpostref02_MulMod.mono _ _ _ _
      | exact outpostref02_Whole.mono _ _ _ _
      | exact LeO.none _
      | refine LeO.ite ?_ ?_
      | refine LeO.bind ?_ (fun _ => ?_)
set_option maxHeartbeats 8000000 in
set_option maxRecDepth 100000 in
theorem outpostref02_PowMod.calls (k : Nat) (a0 : Int) (a1 : Int) (a2 : Int) (r1 : Int) (r2 : Int) (w : World) (h : outpostref02_PowMod.f k a0 a1 a2 = some (r1, r2)) :
    Calls Try.prog 54 #[.int .u64 a0, .int .u64 a1, .int .u64 a2] w fun e w' => e = .returned (.tuple #[.int .u64 r1, .int .i64 r2]) ∧ Drawn0 w w' := by
  have H : (if a2 = 0 then (some (0, 20)) else ((outpostref02_Whole.f k 0 1 a2).bind fun bt342 => (outpostref02_PowMod.l0 k a0 a1 a2 bt342.2 63))) = some (r1, r2) := h
  clear h
  by_cases c4 : a2 = 0
  · rw [if_pos c4] at H
    have c4b0 : (a2 == 0) = true := beq_iff_eq.mpr c4
    have c4b1 : (a2 != 0) = false := bne_eq_false_iff_eq.mpr c4
    clear c4
    simp only [Option.some.injEq, Prod.mk.injEq] at H
    obtain ⟨rfl, rfl⟩ := H
    go_enter Try.func54, Try.ntmps54
    go_wp2
    go_ret2
    exact ⟨by first | rfl | (simp; done) | (simp [*]; done) | (simp [wrap64]; done), by repeat (first | exact Drawn0.refl _ | apply Drawn0.step)⟩
  · rw [if_neg c4] at H
    have c4b0 : (a2 == 0) = false := beq_eq_false_iff_ne.mpr c4
    have c4b1 : (a2 != 0) = true := bne_iff_ne.mpr c4
    replace H := Option.bind_eq_some_iff.mp H
    obtain ⟨⟨t342, t343⟩, A50, H⟩ := H
    replace H : (outpostref02_PowMod.l0 k a0 a1 a2 t343 63) = some (r1, r2) := H
    have A5 := Aside0.mk A50
    clear A50
    have H' := Aside0.mk H
    clear H
    go_enter Try.func54, Try.ntmps54
    go_wp2_with (first | ((with_reducible refine gate_callee (f := 72) rfl ?_); refine goesL_ (some 15) rfl rfl Try.func72 (by kernel_rfl) rfl #[.int .u64 0, .int .u64 1, .int .u64 a2] rfl (by (try simp only [List.map_toArray, List.map_cons, List.map_nil]); first | done | rfl | (simp only [List.length_drop, List.length_take]; rfl) | (simp [Act.eval, IntKind.wrap_u8, IntKind.wrap_u32]; done)) ?_; (with_reducible refine (outpostref02_Whole.calls k 0 1 a2 t342 t343 _ A5.out).mono ?_); rintro e w' ⟨rfl, ⟨nd, rfl⟩⟩; refine ⟨_, rfl, ?_⟩))
    go_loopg [9, 10] k (fun kq v9 v10 w' => ∃ (x9_1 : Int) (x10_1 : Int), v9 = .int .u64 x9_1 ∧ v10 = .int .i64 x10_1 ∧ Aside0 (outpostref02_PowMod.l0 kq a0 a1 a2 x9_1 x10_1 = some (r1, r2)) ∧ Aside0 (kq ≤ k) ∧ Drawn0 w w')
    case atStart => exact ⟨(t343), (63), (by first | rfl | (simp; done) | (simp [*]; done) | (simp [wrap64]; done)), (by first | rfl | (simp; done) | (simp [*]; done) | (simp [wrap64]; done)), H', ⟨Nat.le_refl _⟩, by repeat (first | exact Drawn0.refl _ | apply Drawn0.step)⟩
    case round =>
      clear H'
      try clear p2
      try clear c4
      try clear c4b0
      try clear c4b1
      try clear c5
      obtain ⟨x9_1, x10_1, rfl, rfl, HA, HK1, ⟨m1, rfl⟩⟩ := hrel
      cases gk with
      | zero => exact absurd HA.out (by simp [outpostref02_PowMod.l0])
      | succ k1 =>
        have H := HA.out
        clear HA
        simp only [outpostref02_PowMod.l0] at H
        by_cases c6 : x10_1 ≥ 0
        · rw [if_pos c6] at H
          have c6b0 : decide (0 ≤ x10_1) = true := decide_eq_true c6
          clear c6
          replace H := Option.bind_eq_some_iff.mp H
          obtain ⟨⟨t344, t345⟩, A70, H⟩ := H
          replace H : ((outpostref02_Bit.f a1 x10_1).bind fun t346 => (if t346 = 1 then ((outpostref02_MulMod.f k1 t344 a0 a2).bind fun bt347 => (outpostref02_PowMod.l0 k1 a0 a1 a2 bt347.1 (wrap64 (x10_1 - 1)))) else (outpostref02_PowMod.l0 k1 a0 a1 a2 t344 (wrap64 (x10_1 - 1))))) = some (r1, r2) := H
          have A7 := Aside0.mk A70
          clear A70
          replace H := Option.bind_eq_some_iff.mp H
          obtain ⟨t346, A80, H⟩ := H
          replace H : (if t346 = 1 then ((outpostref02_MulMod.f k1 t344 a0 a2).bind fun bt347 => (outpostref02_PowMod.l0 k1 a0 a1 a2 bt347.1 (wrap64 (x10_1 - 1)))) else (outpostref02_PowMod.l0 k1 a0 a1 a2 t344 (wrap64 (x10_1 - 1)))) = some (r1, r2) := H
          have A8 := Aside0.mk A80
          clear A80
          by_cases c9 : t346 = 1
          · rw [if_pos c9] at H
            have c9b0 : (t346 == 1) = true := beq_iff_eq.mpr c9
            have c9b1 : (t346 != 1) = false := bne_eq_false_iff_eq.mpr c9
            clear c9
            replace H := Option.bind_eq_some_iff.mp H
            obtain ⟨⟨t347, t348⟩, A100, H⟩ := H
            replace H : (outpostref02_PowMod.l0 k1 a0 a1 a2 t347 (wrap64 (x10_1 - 1))) = some (r1, r2) := H
            have A10 := Aside0.mk A100
            clear A100
            have H' := Aside0.mk H
            clear H
            go_wp2_with (first | ((with_reducible refine gate_callee (f := 55) rfl ?_); refine goesL_ (some 26) rfl rfl Try.func55 (by kernel_rfl) rfl #[.int .u64 x9_1, .int .u64 x9_1, .int .u64 a2] rfl (by (try simp only [List.map_toArray, List.map_cons, List.map_nil]); first | done | rfl | (simp only [List.length_drop, List.length_take]; rfl) | (simp [Act.eval, IntKind.wrap_u8, IntKind.wrap_u32]; done)) ?_; (with_reducible refine (outpostref02_MulMod.calls k1 x9_1 x9_1 a2 t344 t345 _ A7.out).mono ?_); rintro e w' ⟨rfl, ⟨nd, rfl⟩⟩; refine ⟨_, rfl, ?_⟩) | ((with_reducible refine gate_callee (f := 73) rfl ?_); refine goesL_ (some 31) rfl rfl Try.func73 (by kernel_rfl) rfl #[.int .u64 a1, .int .i64 x10_1] rfl (by (try simp only [List.map_toArray, List.map_cons, List.map_nil]); first | done | rfl | (simp only [List.length_drop, List.length_take]; rfl) | (simp [Act.eval, IntKind.wrap_u8, IntKind.wrap_u32]; done)) ?_; (with_reducible refine (outpostref02_Bit.calls a1 x10_1 t346 _ A8.out).mono ?_); rintro e w' ⟨rfl, ⟨nd, rfl⟩⟩; refine ⟨_, rfl, ?_⟩) | ((with_reducible refine gate_callee (f := 55) rfl ?_); refine goesL_ (some 37) rfl rfl Try.func55 (by kernel_rfl) rfl #[.int .u64 t344, .int .u64 a0, .int .u64 a2] rfl (by (try simp only [List.map_toArray, List.map_cons, List.map_nil]); first | done | rfl | (simp only [List.length_drop, List.length_take]; rfl) | (simp [Act.eval, IntKind.wrap_u8, IntKind.wrap_u32]; done)) ?_; (with_reducible refine (outpostref02_MulMod.calls k1 t344 a0 a2 t347 t348 _ A10.out).mono ?_); rintro e w' ⟨rfl, ⟨nd, rfl⟩⟩; refine ⟨_, rfl, ?_⟩))
            go_roundg k1
            case measure => have := HK1.out; omega
            case rel => exact ⟨(t347), (wrap64 (x10_1 - 1)), (by first | rfl | (simp; done) | (simp [*]; done) | (simp [wrap64]; done)), (by first | rfl | (simp; done) | (simp [*]; done) | (simp [wrap64]; done)), H', ⟨by have := HK1.out; omega⟩, by repeat (first | exact Drawn0.refl _ | apply Drawn0.step)⟩
          · rw [if_neg c9] at H
            have c9b0 : (t346 == 1) = false := beq_eq_false_iff_ne.mpr c9
            have c9b1 : (t346 != 1) = true := bne_iff_ne.mpr c9
            have H' := Aside0.mk H
            clear H
            go_wp2_with (first | ((with_reducible refine gate_callee (f := 55) rfl ?_); refine goesL_ (some 26) rfl rfl Try.func55 (by kernel_rfl) rfl #[.int .u64 x9_1, .int .u64 x9_1, .int .u64 a2] rfl (by (try simp only [List.map_toArray, List.map_cons, List.map_nil]); first | done | rfl | (simp only [List.length_drop, List.length_take]; rfl) | (simp [Act.eval, IntKind.wrap_u8, IntKind.wrap_u32]; done)) ?_; (with_reducible refine (outpostref02_MulMod.calls k1 x9_1 x9_1 a2 t344 t345 _ A7.out).mono ?_); rintro e w' ⟨rfl, ⟨nd, rfl⟩⟩; refine ⟨_, rfl, ?_⟩) | ((with_reducible refine gate_callee (f := 73) rfl ?_); refine goesL_ (some 31) rfl rfl Try.func73 (by kernel_rfl) rfl #[.int .u64 a1, .int .i64 x10_1] rfl (by (try simp only [List.map_toArray, List.map_cons, List.map_nil]); first | done | rfl | (simp only [List.length_drop, List.length_take]; rfl) | (simp [Act.eval, IntKind.wrap_u8, IntKind.wrap_u32]; done)) ?_; (with_reducible refine (outpostref02_Bit.calls a1 x10_1 t346 _ A8.out).mono ?_); rintro e w' ⟨rfl, ⟨nd, rfl⟩⟩; refine ⟨_, rfl, ?_⟩))
            go_roundg k1
            case measure => have := HK1.out; omega
            case rel => exact ⟨(t344), (wrap64 (x10_1 - 1)), (by first | rfl | (simp; done) | (simp [*]; done) | (simp [wrap64]; done)), (by first | rfl | (simp; done) | (simp [*]; done) | (simp [wrap64]; done)), H', ⟨by have := HK1.out; omega⟩, by repeat (first | exact Drawn0.refl _ | apply Drawn0.step)⟩
        · rw [if_neg c6] at H
          have c6b0 : decide (0 ≤ x10_1) = false := decide_eq_false c6
          clear c6
          simp only [Option.some.injEq, Prod.mk.injEq] at H
          obtain ⟨rfl, rfl⟩ := H
          go_wp2
          go_ret2
          exact ⟨by first | rfl | (simp; done) | (simp [*]; done) | (simp [wrap64]; done), by repeat (first | exact Drawn0.refl _ | apply Drawn0.step)⟩

/-! ### outpostref03_back: function 56 -/
def outpostref03_back.f (k : Nat) (a0_0 : Int) (a0_1 : Int) (a0_2 : Int) (a0_3 : Int) (a0_4 : Bool) (a1 : Int) : Option (Int) := (outpostref03_mirrored.f k a0_0 a0_1 a0_2 a0_3 a0_4 (IntKind.u64.wrap (Go.bits .xor .u32 a1 a0_3))).bind fun t350 => (some t350)
theorem outpostref03_back.mono : ∀ a0 a1 a2 a3 a4 a5 k, LeO (outpostref03_back.f k a0 a1 a2 a3 a4 a5) (outpostref03_back.f (k + 1) a0 a1 a2 a3 a4 a5) := by
  intro a0 a1 a2 a3 a4 a5 k
  unfold outpostref03_back.f
  repeat' first
      | (with_reducible exact outpostref03_mirrored.mono _ _ _ _ _ _ _)
      | (with_reducible exact LeO.refl _)
      | (with_reducible exact LeO.none _)
      | (with_reducible refine LeO.ite ?_ ?_)
      | (with_reducible refine LeO.bind ?_ (fun _ => ?_))
      | exact outpostref03_mirrored.mono _ _ _ _ _ _ _
      | exact LeO.none _
      | refine LeO.ite ?_ ?_
      | refine LeO.bind ?_ (fun _ => ?_)
set_option maxHeartbeats 8000000 in
set_option maxRecDepth 100000 in
theorem outpostref03_back.calls (k : Nat) (a0_0 : Int) (a0_1 : Int) (a0_2 : Int) (a0_3 : Int) (a0_4 : Bool) (a1 : Int) (r : Int) (w : World) (h : outpostref03_back.f k a0_0 a0_1 a0_2 a0_3 a0_4 a1 = some r) :
    Calls Try.prog 56 #[.agg #[.int .i64 a0_0, .int .u32 a0_1, .int .u32 a0_2, .int .u32 a0_3, .bool a0_4], .int .u32 a1] w fun e w' => e = .returned (.int .u64 r) ∧ Below w.heap.size w w' := by
  have hu24 := Try.underlying24
  have HB := Aside0.mk (Below.refl w.heap.size w)
  have H : ((outpostref03_mirrored.f k a0_0 a0_1 a0_2 a0_3 a0_4 (IntKind.u64.wrap (Go.bits .xor .u32 a1 a0_3))).bind fun t350 => (some t350)) = some r := h
  clear h
  replace H := Option.bind_eq_some_iff.mp H
  obtain ⟨t350, A30, H⟩ := H
  replace H : (some t350) = some r := H
  have A3 := Aside0.mk A30
  clear A30
  obtain rfl := Option.some.inj H
  go_enter Try.func56, Try.ntmps56
  go_wp2_with (first | ((with_reducible refine gate_dst (N := 2) rfl ?_); refine box_event ?hg (N := 2) ?hd (cs := #[.int .i64 a0_0, .int .u32 a0_1, .int .u32 a0_2, .int .u32 a0_3, .bool a0_4]) (t := 24) ?hr ?_; (case hd => rfl); (case hg => rfl); (case hr => first | (go_simp; done) | (go_simp; rfl)); intro gb349 hg w4 hbox hb; have n0_ := Aside0.mk (below_step (by repeat (first | (with_reducible first | exact HB.out | apply below_alloc | apply pw_below_drewN | apply below_drew1) | exact HB.out)) hb); have n1_ := Aside0.mk (hbox); have n2_ := Aside0.mk ((by rw [hg]; exact (below_size (by repeat (first | (with_reducible first | exact HB.out | apply below_alloc | apply pw_below_drewN | apply below_drew1) | exact HB.out))) : w.heap.size ≤ gb349)); have n3_ := Aside0.mk ((by rw [hg]; exact (below_size (by repeat (first | (with_reducible first | exact HB.out | apply below_alloc | apply pw_below_drewN | apply below_drew1) | exact HB.out))) : w.heap.size ≤ gb349)); clear HB; have HB := n0_; have BK349 := n1_; have GW349 := n2_; have GE349 := n3_; clear n0_ n1_ n2_ n3_; clear hb hbox hg; have hcz5_0 : w4.cell? ⟨gb349, 0, none⟩ = some (.int .i64 a0_0) := (blk_cell BK349.out 0).trans rfl; have hcz5_1 : w4.cell? ⟨gb349, 1, none⟩ = some (.int .u32 a0_1) := (blk_cell BK349.out 1).trans rfl; have hcz5_2 : w4.cell? ⟨gb349, 2, none⟩ = some (.int .u32 a0_2) := (blk_cell BK349.out 2).trans rfl; have hcz5_3 : w4.cell? ⟨gb349, 3, none⟩ = some (.int .u32 a0_3) := (blk_cell BK349.out 3).trans rfl; have hcz5_4 : w4.cell? ⟨gb349, 4, none⟩ = some (.bool a0_4) := (blk_cell BK349.out 4).trans rfl; have hfz5_0 := blk_frozen BK349.out 0; have hfz5_1 := blk_frozen BK349.out 1; have hfz5_2 := blk_frozen BK349.out 2; have hfz5_3 := blk_frozen BK349.out 3; have hfz5_4 := blk_frozen BK349.out 4) | ((with_reducible refine gate_callee (f := 65) rfl ?_); refine goesL_ (some 11) rfl rfl Try.func65 (by kernel_rfl) rfl #[.agg #[.int .i64 a0_0, .int .u32 a0_1, .int .u32 a0_2, .int .u32 a0_3, .bool a0_4], .int .u64 (IntKind.u64.wrap (Go.bits .xor .u32 a1 a0_3))] rfl (by (try simp only [List.map_toArray, List.map_cons, List.map_nil]); first | done | rfl | (simp only [List.length_drop, List.length_take]; rfl) | (simp [Act.eval, IntKind.wrap_u8, IntKind.wrap_u32]; done)) ?_; (with_reducible refine (outpostref03_mirrored.calls k a0_0 a0_1 a0_2 a0_3 a0_4 (IntKind.u64.wrap (Go.bits .xor .u32 a1 a0_3)) t350 _ A3.out).mono ?_); rintro e w6 ⟨rfl, hb⟩; refine ⟨_, rfl, ?_⟩; have n0_ := Aside0.mk (blk_below (g := gb349) (o := .cells #[.int .i64 a0_0, .int .u32 a0_1, .int .u32 a0_2, .int .u32 a0_3, .bool a0_4] 24 (0, 0)) (by (with_reducible repeat (first | refine blk_drewN ?_ _ | refine blk_drew ?_ | refine blk_alloc ?_ _)); exact BK349.out) hb); have n1_ := Aside0.mk (below_step (by repeat (first | (with_reducible first | exact HB.out | apply below_alloc | apply pw_below_drewN | apply below_drew1 | refine below_set ?_ GE349.out) | exact HB.out)) hb); clear BK349; clear HB; have BK349 := n0_; have HB := n1_; clear n0_ n1_; (try clear hb); (try clear hb2); (try clear hk); (try clear hi)))
  go_ret
  exact ⟨by first | rfl | (simp [errW_none, errW_some] <;> rfl) | (simp [*, errW_none, errW_some] <;> rfl), by repeat (first | (with_reducible first | exact HB.out | apply below_alloc | apply pw_below_drewN | apply below_drew1 | refine below_set ?_ GE349.out) | exact HB.out)⟩

/-! ### outpostref03_Join: function 38 -/
def outpostref03_Join.j0 : Nat → Int → Int → Int → Bool → Int → Int → Int → Int → Bool → Option (Int × Int)
  | 0, _, _, _, _, _, _, _, _, _ => none
  | k + 1, x1, x2, x3, x29, x352000, x352001, x352002, x352003, x352004 => if x29 = true then (some (0, 11)) else (if 0 ≤ (IntKind.u64.wrap (x352000)) then ((outpostref02_PowMod.f k 2 8 (IntKind.u64.wrap ((IntKind.u64.wrap (x352001)) + (shl .u64 1 (IntKind.u64.wrap (x352000)))))).bind fun bt355 => ((outpostref02_PowMod.f k bt355.1 (IntKind.u64.wrap (x3)) (IntKind.u64.wrap ((IntKind.u64.wrap (x352001)) + (shl .u64 1 (IntKind.u64.wrap (x352000)))))).bind fun bt357 => ((outpostref03_back.f k x352000 x352001 x352002 x352003 x352004 x1).bind fun t359 => ((outpostref02_MulMod.f k (Go.bits .xor .u64 t359 (IntKind.u64.wrap (x352002))) bt357.1 (IntKind.u64.wrap ((IntKind.u64.wrap (x352001)) + (shl .u64 1 (IntKind.u64.wrap (x352000)))))).bind fun bt360 => ((outpostref03_back.f k x352000 x352001 x352002 x352003 x352004 x2).bind fun t362 => ((outpostref03_told.f k x352000 x352001 x352002 x352003 x352004 (Go.bits .xor .u64 bt360.1 t362)).bind fun t363 => (some (t363, 0)))))))) else (none))
def outpostref03_Join.f (k : Nat) (a0_0 : Int) (a0_1 : Int) (a0_2 : Int) (a0_3 : Int) (a0_4 : Bool) (a1 : Int) (a2 : Int) (a3 : Int) : Option (Int × Int) := (outpostref03_Check.f k a0_0 a0_1 a0_2 a0_3 a0_4).bind fun t352 => (if t352 = 0 then (if a3 < 0 then (some (0, 1)) else ((outpostref03_over.f a0_0 a0_1 a0_2 a0_3 a0_4 a1).bind fun t353 => (if t353 = true then (outpostref03_Join.j0 k a1 a2 a3 true a0_0 a0_1 a0_2 a0_3 a0_4) else ((outpostref03_over.f a0_0 a0_1 a0_2 a0_3 a0_4 a2).bind fun t354 => (outpostref03_Join.j0 k a1 a2 a3 t354 a0_0 a0_1 a0_2 a0_3 a0_4))))) else (some (0, 30)))
theorem outpostref03_Join.mono_l : ∀ k, (∀ y0 y1 y2 y3 y4 y5 y6 y7 y8, LeO (outpostref03_Join.j0 k y0 y1 y2 y3 y4 y5 y6 y7 y8) (outpostref03_Join.j0 (k + 1) y0 y1 y2 y3 y4 y5 y6 y7 y8))
  | 0 => fun _ _ _ _ _ _ _ _ _ r h => by simp [outpostref03_Join.j0] at h
  | k + 1 => by
    have ih0 := outpostref03_Join.mono_l k
    · intro y0 y1 y2 y3 y4 y5 y6 y7 y8
      unfold outpostref03_Join.j0
      repeat' first
      | (with_reducible exact ih0 _ _ _ _ _ _ _ _ _)
      | (with_reducible exact outpostref02_MulMod.mono _ _ _ _)
      | (with_reducible exact outpostref02_PowMod.mono _ _ _ _)
      | (with_reducible exact outpostref03_Check.mono _ _ _ _ _ _)
      | (with_reducible exact outpostref03_back.mono _ _ _ _ _ _ _)
      | (with_reducible exact outpostref03_told.mono _ _ _ _ _ _ _)
      | (with_reducible exact LeO.refl _)
      | (with_reducible exact LeO.none _)
      | (with_reducible refine LeO.ite ?_ ?_)
      | (with_reducible refine LeO.bind ?_ (fun _ => ?_))
      | exact ih0 _ _ _ _ _ _ _ _ _
      | exact outpostref02_MulMod.mono _ _ _ _
      | exact outpostref02_PowMod.mono _ _ _ _
      | exact outpostref03_Check.mono _ _ _ _ _ _
      | exact outpostref03_back.mono _ _ _ _ _ _ _
      | exact outpostref03_told.mono _ _ _ _ _ _ _
      | exact LeO.none _
      | refine LeO.ite ?_ ?_
      | refine LeO.bind ?_ (fun _ => ?_)
theorem outpostref03_Join.mono : ∀ a0 a1 a2 a3 a4 a5 a6 a7 k, LeO (outpostref03_Join.f k a0 a1 a2 a3 a4 a5 a6 a7) (outpostref03_Join.f (k + 1) a0 a1 a2 a3 a4 a5 a6 a7) := by
  intro a0 a1 a2 a3 a4 a5 a6 a7 k
  have ih0 := outpostref03_Join.mono_l k
  unfold outpostref03_Join.f
  repeat' first
      | (with_reducible exact ih0 _ _ _ _ _ _ _ _ _)
      | (with_reducible exact outpostref02_MulMod.mono _ _ _ _)
      | (with_reducible exact outpostref02_PowMod.mono _ _ _ _)
      | (with_reducible exact outpostref03_Check.mono _ _ _ _ _ _)
      | (with_reducible exact outpostref03_back.mono _ _ _ _ _ _ _)
      | (with_reducible exact outpostref03_told.mono _ _ _ _ _ _ _)
      | (with_reducible exact LeO.refl _)
      | (with_reducible exact LeO.none _)
      | (with_reducible refine LeO.ite ?_ ?_)
      | (with_reducible refine LeO.bind ?_ (fun _ => ?_))
      | exact ih0 _ _ _ _ _ _ _ _ _
      | exact outpostref02_MulMod.mono _ _ _ _
      | exact outpostref02_PowMod.mono _ _ _ _
      | exact outpostref03_Check.mono _ _ _ _ _ _
      | exact outpostref03_back.mono _ _ _ _ _ _ _
      | exact outpostref03_told.mono _ _ _ _ _ _ _
      | exact LeO.none _
      | refine LeO.ite ?_ ?_
      | refine LeO.bind ?_ (fun _ => ?_)
def outpostref03_Join.T10 : Bool × List (List Nat × List Nat) := (true, [([], []), ([], []), ([0, 1], [0, 1]), ([], []), ([3], [3]), ([4], [4]), ([2, 5], [2, 5]), ([], []), ([], []), ([6, 7, 8, 2], [6, 7, 8]), ([9], [9]), ([10], [10]), ([10], [10]), ([11, 9, 0, 1, 2, 3, 4, 5, 6, 7, 8, 9, 10, 11], [11]), ([12, 13, 0, 1, 2, 3, 4, 5, 6, 7, 8, 9, 10, 11, 12, 13], [12])])
def outpostref03_Join.B10 : List Nat := [0, 0, 3, 0, 8, 24, 63, 0, 0, 511, 1023, 2047, 2047, 4095, 16383]
theorem outpostref03_Join.tab10 : rtab .any (opsOf Try.f38 10) = outpostref03_Join.T10 := by kernel_rfl
theorem outpostref03_Join.bits10 : waitsOk outpostref03_Join.T10.2 outpostref03_Join.B10 = true := by kernel_rfl
def outpostref03_Join.T11 : Bool × List (List Nat × List Nat) := (true, [([], []), ([], []), ([], []), ([], []), ([2, 3], [2, 3]), ([1, 4], [1, 4]), ([0, 5, 4], [0, 5]), ([6, 6, 0, 1, 2, 3, 4, 5, 6], [6]), ([7, 0, 1, 2, 3, 4, 5, 6, 7], [])])
def outpostref03_Join.B11 : List Nat := [0, 0, 0, 0, 12, 30, 63, 127, 255]
theorem outpostref03_Join.tab11 : rtab .any (opsOf Try.f38 11) = outpostref03_Join.T11 := by kernel_rfl
theorem outpostref03_Join.bits11 : waitsOk outpostref03_Join.T11.2 outpostref03_Join.B11 = true := by kernel_rfl
set_option maxHeartbeats 8000000 in
set_option maxRecDepth 100000 in
theorem outpostref03_Join.calls (k : Nat) (a0_0 : Int) (a0_1 : Int) (a0_2 : Int) (a0_3 : Int) (a0_4 : Bool) (a1 : Int) (a2 : Int) (a3 : Int) (r1 : Int) (r2 : Int) (w : World) (h : outpostref03_Join.f k a0_0 a0_1 a0_2 a0_3 a0_4 a1 a2 a3 = some (r1, r2)) :
    Calls Try.prog 38 #[.agg #[.int .i64 a0_0, .int .u32 a0_1, .int .u32 a0_2, .int .u32 a0_3, .bool a0_4], .int .u32 a1, .int .u32 a2, .int .i64 a3] w fun e w' => e = .returned (.tuple #[.int .u32 r1, .int .i64 r2]) ∧ Below w.heap.size w w' := by
  have hu24 := Try.underlying24
  have HB := Aside0.mk (Below.refl w.heap.size w)
  have H : ((outpostref03_Check.f k a0_0 a0_1 a0_2 a0_3 a0_4).bind fun t352 => (if t352 = 0 then (if a3 < 0 then (some (0, 1)) else ((outpostref03_over.f a0_0 a0_1 a0_2 a0_3 a0_4 a1).bind fun t353 => (if t353 = true then (outpostref03_Join.j0 k a1 a2 a3 true a0_0 a0_1 a0_2 a0_3 a0_4) else ((outpostref03_over.f a0_0 a0_1 a0_2 a0_3 a0_4 a2).bind fun t354 => (outpostref03_Join.j0 k a1 a2 a3 t354 a0_0 a0_1 a0_2 a0_3 a0_4))))) else (some (0, 30)))) = some (r1, r2) := h
  clear h
  replace H := Option.bind_eq_some_iff.mp H
  obtain ⟨t352, A50, H⟩ := H
  replace H : (if t352 = 0 then (if a3 < 0 then (some (0, 1)) else ((outpostref03_over.f a0_0 a0_1 a0_2 a0_3 a0_4 a1).bind fun t353 => (if t353 = true then (outpostref03_Join.j0 k a1 a2 a3 true a0_0 a0_1 a0_2 a0_3 a0_4) else ((outpostref03_over.f a0_0 a0_1 a0_2 a0_3 a0_4 a2).bind fun t354 => (outpostref03_Join.j0 k a1 a2 a3 t354 a0_0 a0_1 a0_2 a0_3 a0_4))))) else (some (0, 30))) = some (r1, r2) := H
  have A5 := Aside0.mk A50
  clear A50
  by_cases c6 : t352 = 0
  · rw [if_pos c6] at H
    have c6b0 : (t352 == 0) = true := beq_iff_eq.mpr c6
    have c6b1 : (t352 != 0) = false := bne_eq_false_iff_eq.mpr c6
    clear c6
    by_cases c7 : a3 < 0
    · rw [if_pos c7] at H
      have c7b0 : decide (a3 < 0) = true := decide_eq_true c7
      clear c7
      simp only [Option.some.injEq, Prod.mk.injEq] at H
      obtain ⟨rfl, rfl⟩ := H
      go_enter Try.func38, Try.ntmps38
      go_wp2_with (first | ((with_reducible refine gate_dst (N := 4) rfl ?_); refine box_event ?hg (N := 4) ?hd (cs := #[.int .i64 a0_0, .int .u32 a0_1, .int .u32 a0_2, .int .u32 a0_3, .bool a0_4]) (t := 24) ?hr ?_; (case hd => rfl); (case hg => rfl); (case hr => first | (go_simp; done) | (go_simp; rfl)); intro gb351 hg w8 hbox hb; have n0_ := Aside0.mk (below_step (by repeat (first | (with_reducible first | exact HB.out | apply below_alloc | apply pw_below_drewN | apply below_drew1) | exact HB.out)) hb); have n1_ := Aside0.mk (hbox); have n2_ := Aside0.mk ((by rw [hg]; exact (below_size (by repeat (first | (with_reducible first | exact HB.out | apply below_alloc | apply pw_below_drewN | apply below_drew1) | exact HB.out))) : w.heap.size ≤ gb351)); have n3_ := Aside0.mk ((by rw [hg]; exact (below_size (by repeat (first | (with_reducible first | exact HB.out | apply below_alloc | apply pw_below_drewN | apply below_drew1) | exact HB.out))) : w.heap.size ≤ gb351)); clear HB; have HB := n0_; have BK351 := n1_; have GW351 := n2_; have GE351 := n3_; clear n0_ n1_ n2_ n3_; clear hb hbox hg; have hcz9_0 : w8.cell? ⟨gb351, 0, none⟩ = some (.int .i64 a0_0) := (blk_cell BK351.out 0).trans rfl; have hcz9_1 : w8.cell? ⟨gb351, 1, none⟩ = some (.int .u32 a0_1) := (blk_cell BK351.out 1).trans rfl; have hcz9_2 : w8.cell? ⟨gb351, 2, none⟩ = some (.int .u32 a0_2) := (blk_cell BK351.out 2).trans rfl; have hcz9_3 : w8.cell? ⟨gb351, 3, none⟩ = some (.int .u32 a0_3) := (blk_cell BK351.out 3).trans rfl; have hcz9_4 : w8.cell? ⟨gb351, 4, none⟩ = some (.bool a0_4) := (blk_cell BK351.out 4).trans rfl; have hfz9_0 := blk_frozen BK351.out 0; have hfz9_1 := blk_frozen BK351.out 1; have hfz9_2 := blk_frozen BK351.out 2; have hfz9_3 := blk_frozen BK351.out 3; have hfz9_4 := blk_frozen BK351.out 4) | ((with_reducible refine gate_callee (f := 17) rfl ?_); refine goesL_ (some 18) rfl rfl Try.func17 (by kernel_rfl) rfl #[.agg #[.int .i64 a0_0, .int .u32 a0_1, .int .u32 a0_2, .int .u32 a0_3, .bool a0_4]] rfl (by (try simp only [List.map_toArray, List.map_cons, List.map_nil]); first | done | rfl | (simp only [List.length_drop, List.length_take]; rfl) | (simp [Act.eval, IntKind.wrap_u8, IntKind.wrap_u32]; done)) ?_; (with_reducible refine (outpostref03_Check.calls k a0_0 a0_1 a0_2 a0_3 a0_4 t352 _ A5.out).mono ?_); rintro e w10 ⟨rfl, hb⟩; refine ⟨_, rfl, ?_⟩; have n0_ := Aside0.mk (blk_below (g := gb351) (o := .cells #[.int .i64 a0_0, .int .u32 a0_1, .int .u32 a0_2, .int .u32 a0_3, .bool a0_4] 24 (0, 0)) (by (with_reducible repeat (first | refine blk_drewN ?_ _ | refine blk_drew ?_ | refine blk_alloc ?_ _)); exact BK351.out) hb); have n1_ := Aside0.mk (below_step (by repeat (first | (with_reducible first | exact HB.out | apply below_alloc | apply pw_below_drewN | apply below_drew1 | refine below_set ?_ GE351.out) | exact HB.out)) hb); clear BK351; clear HB; have BK351 := n0_; have HB := n1_; clear n0_ n1_; (try clear hb); (try clear hb2); (try clear hk); (try clear hi)))
      go_ret2
      exact ⟨by first | rfl | (simp [errW_none, errW_some] <;> rfl) | (simp [*, errW_none, errW_some] <;> rfl), by repeat (first | (with_reducible first | exact HB.out | apply below_alloc | apply pw_below_drewN | apply below_drew1 | refine below_set ?_ GE351.out) | exact HB.out)⟩
    · rw [if_neg c7] at H
      have c7b0 : decide (a3 < 0) = false := decide_eq_false c7
      clear c7
      have HC11 := Aside0.mk H
      clear H
      go_enter Try.func38, Try.ntmps38
      go_upto_region 5 with (first | ((with_reducible refine gate_dst (N := 4) rfl ?_); refine box_event ?hg (N := 4) ?hd (cs := #[.int .i64 a0_0, .int .u32 a0_1, .int .u32 a0_2, .int .u32 a0_3, .bool a0_4]) (t := 24) ?hr ?_; (case hd => rfl); (case hg => rfl); (case hr => first | (go_simp; done) | (go_simp; rfl)); intro gb351 hg w12 hbox hb; have n0_ := Aside0.mk (below_step (by repeat (first | (with_reducible first | exact HB.out | apply below_alloc | apply pw_below_drewN | apply below_drew1) | exact HB.out)) hb); have n1_ := Aside0.mk (hbox); have n2_ := Aside0.mk ((by rw [hg]; exact (below_size (by repeat (first | (with_reducible first | exact HB.out | apply below_alloc | apply pw_below_drewN | apply below_drew1) | exact HB.out))) : w.heap.size ≤ gb351)); have n3_ := Aside0.mk ((by rw [hg]; exact (below_size (by repeat (first | (with_reducible first | exact HB.out | apply below_alloc | apply pw_below_drewN | apply below_drew1) | exact HB.out))) : w.heap.size ≤ gb351)); clear HB; have HB := n0_; have BK351 := n1_; have GW351 := n2_; have GE351 := n3_; clear n0_ n1_ n2_ n3_; clear hb hbox hg; have hcz13_0 : w12.cell? ⟨gb351, 0, none⟩ = some (.int .i64 a0_0) := (blk_cell BK351.out 0).trans rfl; have hcz13_1 : w12.cell? ⟨gb351, 1, none⟩ = some (.int .u32 a0_1) := (blk_cell BK351.out 1).trans rfl; have hcz13_2 : w12.cell? ⟨gb351, 2, none⟩ = some (.int .u32 a0_2) := (blk_cell BK351.out 2).trans rfl; have hcz13_3 : w12.cell? ⟨gb351, 3, none⟩ = some (.int .u32 a0_3) := (blk_cell BK351.out 3).trans rfl; have hcz13_4 : w12.cell? ⟨gb351, 4, none⟩ = some (.bool a0_4) := (blk_cell BK351.out 4).trans rfl; have hfz13_0 := blk_frozen BK351.out 0; have hfz13_1 := blk_frozen BK351.out 1; have hfz13_2 := blk_frozen BK351.out 2; have hfz13_3 := blk_frozen BK351.out 3; have hfz13_4 := blk_frozen BK351.out 4) | ((with_reducible refine gate_callee (f := 17) rfl ?_); refine goesL_ (some 18) rfl rfl Try.func17 (by kernel_rfl) rfl #[.agg #[.int .i64 a0_0, .int .u32 a0_1, .int .u32 a0_2, .int .u32 a0_3, .bool a0_4]] rfl (by (try simp only [List.map_toArray, List.map_cons, List.map_nil]); first | done | rfl | (simp only [List.length_drop, List.length_take]; rfl) | (simp [Act.eval, IntKind.wrap_u8, IntKind.wrap_u32]; done)) ?_; (with_reducible refine (outpostref03_Check.calls k a0_0 a0_1 a0_2 a0_3 a0_4 t352 _ A5.out).mono ?_); rintro e w14 ⟨rfl, hb⟩; refine ⟨_, rfl, ?_⟩; have n0_ := Aside0.mk (blk_below (g := gb351) (o := .cells #[.int .i64 a0_0, .int .u32 a0_1, .int .u32 a0_2, .int .u32 a0_3, .bool a0_4] 24 (0, 0)) (by (with_reducible repeat (first | refine blk_drewN ?_ _ | refine blk_drew ?_ | refine blk_alloc ?_ _)); exact BK351.out) hb); have n1_ := Aside0.mk (below_step (by repeat (first | (with_reducible first | exact HB.out | apply below_alloc | apply pw_below_drewN | apply below_drew1 | refine below_set ?_ GE351.out) | exact HB.out)) hb); clear BK351; clear HB; have BK351 := n0_; have HB := n1_; clear n0_ n1_; (try clear hb); (try clear hb2); (try clear hk); (try clear hi)))
      (try simp only [Act.put, List.setIfInBounds_toArray, List.set_cons_zero, List.set_cons_succ])
      go_cut [29] (fun v29 wc => ∃ (kq : Nat) (x29_10 : Bool), v29 = .bool x29_10 ∧ Aside0 (outpostref03_Join.j0 kq a1 a2 a3 x29_10 a0_0 a0_1 a0_2 a0_3 a0_4 = some (r1, r2)) ∧ Aside0 (kq ≤ k) ∧ Aside0 (wc.heap[gb351]? = some (.cells #[.int .i64 a0_0, .int .u32 a0_1, .int .u32 a0_2, .int .u32 a0_3, .bool a0_4] 24 (0, 0))) ∧ Aside0 (Below w.heap.size w wc))
      case first =>
        have H := HC11.out
        clear HC11
        replace H := Option.bind_eq_some_iff.mp H
        obtain ⟨t353, A150, H⟩ := H
        replace H : (if t353 = true then (outpostref03_Join.j0 k a1 a2 a3 true a0_0 a0_1 a0_2 a0_3 a0_4) else ((outpostref03_over.f a0_0 a0_1 a0_2 a0_3 a0_4 a2).bind fun t354 => (outpostref03_Join.j0 k a1 a2 a3 t354 a0_0 a0_1 a0_2 a0_3 a0_4))) = some (r1, r2) := H
        have A15 := Aside0.mk A150
        clear A150
        by_cases c16 : t353 = true
        · subst c16
          have H1 : (outpostref03_Join.j0 k a1 a2 a3 true a0_0 a0_1 a0_2 a0_3 a0_4) = some (r1, r2) := by rw [if_pos rfl] at H; exact H
          clear H
          have H := H1
          clear H1
          have H' := Aside0.mk H
          clear H
          have hcz17_0 : w14.cell? ⟨gb351, 0, none⟩ = some (.int .i64 a0_0) := (blk_cell BK351.out 0).trans rfl
          have hcz17_1 : w14.cell? ⟨gb351, 1, none⟩ = some (.int .u32 a0_1) := (blk_cell BK351.out 1).trans rfl
          have hcz17_2 : w14.cell? ⟨gb351, 2, none⟩ = some (.int .u32 a0_2) := (blk_cell BK351.out 2).trans rfl
          have hcz17_3 : w14.cell? ⟨gb351, 3, none⟩ = some (.int .u32 a0_3) := (blk_cell BK351.out 3).trans rfl
          have hcz17_4 : w14.cell? ⟨gb351, 4, none⟩ = some (.bool a0_4) := (blk_cell BK351.out 4).trans rfl
          have hfz17_0 := blk_frozen BK351.out 0
          have hfz17_1 := blk_frozen BK351.out 1
          have hfz17_2 := blk_frozen BK351.out 2
          have hfz17_3 := blk_frozen BK351.out 3
          have hfz17_4 := blk_frozen BK351.out 4
          go_wp2_with (first | ((with_reducible refine gate_callee (f := 39) rfl ?_); refine goesL_ (some 24) rfl rfl Try.func39 (by kernel_rfl) rfl #[.agg #[.int .i64 a0_0, .int .u32 a0_1, .int .u32 a0_2, .int .u32 a0_3, .bool a0_4], .int .u32 a1] rfl (by (try simp only [List.map_toArray, List.map_cons, List.map_nil]); first | done | rfl | (simp only [List.length_drop, List.length_take]; rfl) | (simp [Act.eval, IntKind.wrap_u8, IntKind.wrap_u32]; done)) ?_; (with_reducible refine (outpostref03_over.calls a0_0 a0_1 a0_2 a0_3 a0_4 a1 true _ A15.out).mono ?_); rintro e w18 ⟨rfl, hb⟩; refine ⟨_, rfl, ?_⟩; have n0_ := Aside0.mk (blk_below (g := gb351) (o := .cells #[.int .i64 a0_0, .int .u32 a0_1, .int .u32 a0_2, .int .u32 a0_3, .bool a0_4] 24 (0, 0)) (by (with_reducible repeat (first | refine blk_drewN ?_ _ | refine blk_drew ?_ | refine blk_alloc ?_ _)); exact BK351.out) hb); have n1_ := Aside0.mk (below_step (by repeat (first | (with_reducible first | exact HB.out | apply below_alloc | apply pw_below_drewN | apply below_drew1 | refine below_set ?_ GE351.out) | exact HB.out)) hb); clear BK351; clear HB; have BK351 := n0_; have HB := n1_; clear n0_ n1_; (try clear hb); (try clear hb2); (try clear hk); (try clear hi)))
          go_meet
          case rel => exact ⟨_, (true), (by first | rfl | (simp; done) | (simp [*]; done) | (simp [wrap64]; done)), H', ⟨by first | omega | exact Nat.le_refl _⟩, ⟨by (with_reducible repeat (first | refine blk_drewN ?_ _ | refine blk_drew ?_ | refine blk_alloc ?_ _)); exact BK351.out⟩, ⟨by repeat (first | (with_reducible first | exact HB.out | apply below_alloc | apply pw_below_drewN | apply below_drew1 | refine below_set ?_ GE351.out) | exact HB.out)⟩⟩
        · replace c16 := Bool.eq_false_iff.mpr c16
          subst c16
          have H1 : ((outpostref03_over.f a0_0 a0_1 a0_2 a0_3 a0_4 a2).bind fun t354 => (outpostref03_Join.j0 k a1 a2 a3 t354 a0_0 a0_1 a0_2 a0_3 a0_4)) = some (r1, r2) := by rw [if_neg (show ¬ (false = true) by decide)] at H; exact H
          clear H
          have H := H1
          clear H1
          replace H := Option.bind_eq_some_iff.mp H
          obtain ⟨t354, A190, H⟩ := H
          replace H : (outpostref03_Join.j0 k a1 a2 a3 t354 a0_0 a0_1 a0_2 a0_3 a0_4) = some (r1, r2) := H
          have A19 := Aside0.mk A190
          clear A190
          have H' := Aside0.mk H
          clear H
          have hcz20_0 : w14.cell? ⟨gb351, 0, none⟩ = some (.int .i64 a0_0) := (blk_cell BK351.out 0).trans rfl
          have hcz20_1 : w14.cell? ⟨gb351, 1, none⟩ = some (.int .u32 a0_1) := (blk_cell BK351.out 1).trans rfl
          have hcz20_2 : w14.cell? ⟨gb351, 2, none⟩ = some (.int .u32 a0_2) := (blk_cell BK351.out 2).trans rfl
          have hcz20_3 : w14.cell? ⟨gb351, 3, none⟩ = some (.int .u32 a0_3) := (blk_cell BK351.out 3).trans rfl
          have hcz20_4 : w14.cell? ⟨gb351, 4, none⟩ = some (.bool a0_4) := (blk_cell BK351.out 4).trans rfl
          have hfz20_0 := blk_frozen BK351.out 0
          have hfz20_1 := blk_frozen BK351.out 1
          have hfz20_2 := blk_frozen BK351.out 2
          have hfz20_3 := blk_frozen BK351.out 3
          have hfz20_4 := blk_frozen BK351.out 4
          go_wp2_with (first | ((with_reducible refine gate_callee (f := 39) rfl ?_); refine goesL_ (some 24) rfl rfl Try.func39 (by kernel_rfl) rfl #[.agg #[.int .i64 a0_0, .int .u32 a0_1, .int .u32 a0_2, .int .u32 a0_3, .bool a0_4], .int .u32 a1] rfl (by (try simp only [List.map_toArray, List.map_cons, List.map_nil]); first | done | rfl | (simp only [List.length_drop, List.length_take]; rfl) | (simp [Act.eval, IntKind.wrap_u8, IntKind.wrap_u32]; done)) ?_; (with_reducible refine (outpostref03_over.calls a0_0 a0_1 a0_2 a0_3 a0_4 a1 false _ A15.out).mono ?_); rintro e w21 ⟨rfl, hb⟩; refine ⟨_, rfl, ?_⟩; have n0_ := Aside0.mk (blk_below (g := gb351) (o := .cells #[.int .i64 a0_0, .int .u32 a0_1, .int .u32 a0_2, .int .u32 a0_3, .bool a0_4] 24 (0, 0)) (by (with_reducible repeat (first | refine blk_drewN ?_ _ | refine blk_drew ?_ | refine blk_alloc ?_ _)); exact BK351.out) hb); have n1_ := Aside0.mk (below_step (by repeat (first | (with_reducible first | exact HB.out | apply below_alloc | apply pw_below_drewN | apply below_drew1 | refine below_set ?_ GE351.out) | exact HB.out)) hb); clear BK351; clear HB; have BK351 := n0_; have HB := n1_; clear n0_ n1_; (try clear hb); (try clear hb2); (try clear hk); (try clear hi); have hcz22_0 : w21.cell? ⟨gb351, 0, none⟩ = some (.int .i64 a0_0) := (blk_cell BK351.out 0).trans rfl; have hcz22_1 : w21.cell? ⟨gb351, 1, none⟩ = some (.int .u32 a0_1) := (blk_cell BK351.out 1).trans rfl; have hcz22_2 : w21.cell? ⟨gb351, 2, none⟩ = some (.int .u32 a0_2) := (blk_cell BK351.out 2).trans rfl; have hcz22_3 : w21.cell? ⟨gb351, 3, none⟩ = some (.int .u32 a0_3) := (blk_cell BK351.out 3).trans rfl; have hcz22_4 : w21.cell? ⟨gb351, 4, none⟩ = some (.bool a0_4) := (blk_cell BK351.out 4).trans rfl; have hfz22_0 := blk_frozen BK351.out 0; have hfz22_1 := blk_frozen BK351.out 1; have hfz22_2 := blk_frozen BK351.out 2; have hfz22_3 := blk_frozen BK351.out 3; have hfz22_4 := blk_frozen BK351.out 4) | (go_at_call 39; (with_reducible refine (outpostref03_over.calls a0_0 a0_1 a0_2 a0_3 a0_4 a2 t354 _ A19.out).mono ?_); rintro e w23 ⟨rfl, hb⟩; have n0_ := Aside0.mk (blk_below (g := gb351) (o := .cells #[.int .i64 a0_0, .int .u32 a0_1, .int .u32 a0_2, .int .u32 a0_3, .bool a0_4] 24 (0, 0)) (by (with_reducible repeat (first | refine blk_drewN ?_ _ | refine blk_drew ?_ | refine blk_alloc ?_ _)); exact BK351.out) hb); have n1_ := Aside0.mk (below_step (by repeat (first | (with_reducible first | exact HB.out | apply below_alloc | apply pw_below_drewN | apply below_drew1 | refine below_set ?_ GE351.out) | exact HB.out)) hb); clear BK351; clear HB; have BK351 := n0_; have HB := n1_; clear n0_ n1_; (try clear hb); (try clear hb2); (try clear hk); (try clear hi)))
          go_meet
          case rel => exact ⟨_, (t354), (by first | rfl | (simp; done) | (simp [*]; done) | (simp [wrap64]; done)), H', ⟨by first | omega | exact Nat.le_refl _⟩, ⟨by (with_reducible repeat (first | refine blk_drewN ?_ _ | refine blk_drew ?_ | refine blk_alloc ?_ _)); exact BK351.out⟩, ⟨by repeat (first | (with_reducible first | exact HB.out | apply below_alloc | apply pw_below_drewN | apply below_drew1 | refine below_set ?_ GE351.out) | exact HB.out)⟩⟩
      case rest =>
        clear HC11
        try clear c1
        try clear p2
        try clear c3
        try clear c6
        try clear c6b0
        try clear c6b1
        try clear p6
        try clear c7
        try clear c7b0
        try clear c16
        try clear c17
        try clear hcz13_0
        try clear hcz13_1
        try clear hcz13_2
        try clear hcz13_3
        try clear hcz13_4
        try clear hcz17_0
        try clear hcz17_1
        try clear hcz17_2
        try clear hcz17_3
        try clear hcz17_4
        try clear hcz20_0
        try clear hcz20_1
        try clear hcz20_2
        try clear hcz20_3
        try clear hcz20_4
        try clear hcz22_0
        try clear hcz22_1
        try clear hcz22_2
        try clear hcz22_3
        try clear hcz22_4
        try clear hcz9_0
        try clear hcz9_1
        try clear hcz9_2
        try clear hcz9_3
        try clear hcz9_4
        try clear hfz13_0
        try clear hfz13_1
        try clear hfz13_2
        try clear hfz13_3
        try clear hfz13_4
        try clear hfz17_0
        try clear hfz17_1
        try clear hfz17_2
        try clear hfz17_3
        try clear hfz17_4
        try clear hfz20_0
        try clear hfz20_1
        try clear hfz20_2
        try clear hfz20_3
        try clear hfz20_4
        try clear hfz22_0
        try clear hfz22_1
        try clear hfz22_2
        try clear hfz22_3
        try clear hfz22_4
        try clear hfz9_0
        try clear hfz9_1
        try clear hfz9_2
        try clear hfz9_3
        try clear hfz9_4
        obtain ⟨kq, x29_10, rfl, HA, HJ10, BK351, HB⟩ := hcut
        cases kq with
        | zero => exact absurd HA.out (by simp [outpostref03_Join.j0])
        | succ kj10 =>
          have H := HA.out
          clear HA
          simp only [outpostref03_Join.j0] at H
          by_cases c24 : x29_10 = true
          · subst c24
            have H1 : (some (0, 11)) = some (r1, r2) := by rw [if_pos rfl] at H; exact H
            clear H
            have H := H1
            clear H1
            simp only [Option.some.injEq, Prod.mk.injEq] at H
            obtain ⟨rfl, rfl⟩ := H
            go_wp2
            go_ret2
            exact ⟨by first | rfl | (simp [errW_none, errW_some] <;> rfl) | (simp [*, errW_none, errW_some] <;> rfl), by repeat (first | (with_reducible first | exact HB.out | apply below_alloc | apply pw_below_drewN | apply below_drew1 | refine below_set ?_ GE351.out) | exact HB.out)⟩
          · replace c24 := Bool.eq_false_iff.mpr c24
            subst c24
            have H1 : (if 0 ≤ (IntKind.u64.wrap (a0_0)) then ((outpostref02_PowMod.f kj10 2 8 (IntKind.u64.wrap ((IntKind.u64.wrap (a0_1)) + (shl .u64 1 (IntKind.u64.wrap (a0_0)))))).bind fun bt355 => ((outpostref02_PowMod.f kj10 bt355.1 (IntKind.u64.wrap (a3)) (IntKind.u64.wrap ((IntKind.u64.wrap (a0_1)) + (shl .u64 1 (IntKind.u64.wrap (a0_0)))))).bind fun bt357 => ((outpostref03_back.f kj10 a0_0 a0_1 a0_2 a0_3 a0_4 a1).bind fun t359 => ((outpostref02_MulMod.f kj10 (Go.bits .xor .u64 t359 (IntKind.u64.wrap (a0_2))) bt357.1 (IntKind.u64.wrap ((IntKind.u64.wrap (a0_1)) + (shl .u64 1 (IntKind.u64.wrap (a0_0)))))).bind fun bt360 => ((outpostref03_back.f kj10 a0_0 a0_1 a0_2 a0_3 a0_4 a2).bind fun t362 => ((outpostref03_told.f kj10 a0_0 a0_1 a0_2 a0_3 a0_4 (Go.bits .xor .u64 bt360.1 t362)).bind fun t363 => (some (t363, 0)))))))) else (none)) = some (r1, r2) := by rw [if_neg (show ¬ (false = true) by decide)] at H; exact H
            clear H
            have H := H1
            clear H1
            obtain ⟨ji25, hji25⟩ : ∃ j_ : Int, (IntKind.u64.wrap (a0_0)) = j_ := ⟨_, rfl⟩
            replace H : (if 0 ≤ (ji25) then ((outpostref02_PowMod.f kj10 2 8 (IntKind.u64.wrap ((IntKind.u64.wrap (a0_1)) + (shl .u64 1 (ji25))))).bind fun bt355 => ((outpostref02_PowMod.f kj10 bt355.1 (IntKind.u64.wrap (a3)) (IntKind.u64.wrap ((IntKind.u64.wrap (a0_1)) + (shl .u64 1 (ji25))))).bind fun bt357 => ((outpostref03_back.f kj10 a0_0 a0_1 a0_2 a0_3 a0_4 a1).bind fun t359 => ((outpostref02_MulMod.f kj10 (Go.bits .xor .u64 t359 (IntKind.u64.wrap (a0_2))) bt357.1 (IntKind.u64.wrap ((IntKind.u64.wrap (a0_1)) + (shl .u64 1 (ji25))))).bind fun bt360 => ((outpostref03_back.f kj10 a0_0 a0_1 a0_2 a0_3 a0_4 a2).bind fun t362 => ((outpostref03_told.f kj10 a0_0 a0_1 a0_2 a0_3 a0_4 (Go.bits .xor .u64 bt360.1 t362)).bind fun t363 => (some (t363, 0)))))))) else (none)) = some (r1, r2) := by first | (rw [hji25] at H; exact H) | (simp only [hji25] at H ⊢; exact H)
            by_cases c26 : 0 ≤ (ji25)
            · rw [if_pos c26] at H
              have c26b0 := eq_true c26
              have c26b1 : decide (0 ≤ (ji25)) = true := decide_eq_true c26
              clear c26
              obtain ⟨ji27, hji27⟩ : ∃ j_ : Int, (shl .u64 1 (ji25)) = j_ := ⟨_, rfl⟩
              replace H : ((outpostref02_PowMod.f kj10 2 8 (IntKind.u64.wrap ((IntKind.u64.wrap (a0_1)) + (ji27)))).bind fun bt355 => ((outpostref02_PowMod.f kj10 bt355.1 (IntKind.u64.wrap (a3)) (IntKind.u64.wrap ((IntKind.u64.wrap (a0_1)) + (ji27)))).bind fun bt357 => ((outpostref03_back.f kj10 a0_0 a0_1 a0_2 a0_3 a0_4 a1).bind fun t359 => ((outpostref02_MulMod.f kj10 (Go.bits .xor .u64 t359 (IntKind.u64.wrap (a0_2))) bt357.1 (IntKind.u64.wrap ((IntKind.u64.wrap (a0_1)) + (ji27)))).bind fun bt360 => ((outpostref03_back.f kj10 a0_0 a0_1 a0_2 a0_3 a0_4 a2).bind fun t362 => ((outpostref03_told.f kj10 a0_0 a0_1 a0_2 a0_3 a0_4 (Go.bits .xor .u64 bt360.1 t362)).bind fun t363 => (some (t363, 0)))))))) = some (r1, r2) := by first | (rw [hji27] at H; exact H) | (simp only [hji27] at H ⊢; exact H)
              have hji27_ : (IntKind.u64.wrap (1 * 2 ^ min (ji25).toNat 64)) = ji27 := hji27
              have hji27z : (ji25) ≤ 64 → (IntKind.u64.wrap (1 * 2 ^ (ji25).toNat)) = ji27 := shl_small hji27
              have hji27u : (IntKind.u64.wrap (2 ^ min (ji25).toNat 64)) = ji27 := by have h_ := hji27_; rw [Int.one_mul] at h_; exact h_
              have hji27v : (ji25) ≤ 64 → (IntKind.u64.wrap (2 ^ (ji25).toNat)) = ji27 := fun hle_ => by have h_ := hji27z hle_; rw [Int.one_mul] at h_; exact h_
              replace H := Option.bind_eq_some_iff.mp H
              obtain ⟨⟨t355, t356⟩, A280, H⟩ := H
              replace H : ((outpostref02_PowMod.f kj10 t355 (IntKind.u64.wrap (a3)) (IntKind.u64.wrap ((IntKind.u64.wrap (a0_1)) + (ji27)))).bind fun bt357 => ((outpostref03_back.f kj10 a0_0 a0_1 a0_2 a0_3 a0_4 a1).bind fun t359 => ((outpostref02_MulMod.f kj10 (Go.bits .xor .u64 t359 (IntKind.u64.wrap (a0_2))) bt357.1 (IntKind.u64.wrap ((IntKind.u64.wrap (a0_1)) + (ji27)))).bind fun bt360 => ((outpostref03_back.f kj10 a0_0 a0_1 a0_2 a0_3 a0_4 a2).bind fun t362 => ((outpostref03_told.f kj10 a0_0 a0_1 a0_2 a0_3 a0_4 (Go.bits .xor .u64 bt360.1 t362)).bind fun t363 => (some (t363, 0))))))) = some (r1, r2) := H
              have A28 := Aside0.mk A280
              clear A280
              replace H := Option.bind_eq_some_iff.mp H
              obtain ⟨⟨t357, t358⟩, A290, H⟩ := H
              replace H : ((outpostref03_back.f kj10 a0_0 a0_1 a0_2 a0_3 a0_4 a1).bind fun t359 => ((outpostref02_MulMod.f kj10 (Go.bits .xor .u64 t359 (IntKind.u64.wrap (a0_2))) t357 (IntKind.u64.wrap ((IntKind.u64.wrap (a0_1)) + (ji27)))).bind fun bt360 => ((outpostref03_back.f kj10 a0_0 a0_1 a0_2 a0_3 a0_4 a2).bind fun t362 => ((outpostref03_told.f kj10 a0_0 a0_1 a0_2 a0_3 a0_4 (Go.bits .xor .u64 bt360.1 t362)).bind fun t363 => (some (t363, 0)))))) = some (r1, r2) := H
              have A29 := Aside0.mk A290
              clear A290
              replace H := Option.bind_eq_some_iff.mp H
              obtain ⟨t359, A300, H⟩ := H
              replace H : ((outpostref02_MulMod.f kj10 (Go.bits .xor .u64 t359 (IntKind.u64.wrap (a0_2))) t357 (IntKind.u64.wrap ((IntKind.u64.wrap (a0_1)) + (ji27)))).bind fun bt360 => ((outpostref03_back.f kj10 a0_0 a0_1 a0_2 a0_3 a0_4 a2).bind fun t362 => ((outpostref03_told.f kj10 a0_0 a0_1 a0_2 a0_3 a0_4 (Go.bits .xor .u64 bt360.1 t362)).bind fun t363 => (some (t363, 0))))) = some (r1, r2) := H
              have A30 := Aside0.mk A300
              clear A300
              replace H := Option.bind_eq_some_iff.mp H
              obtain ⟨⟨t360, t361⟩, A310, H⟩ := H
              replace H : ((outpostref03_back.f kj10 a0_0 a0_1 a0_2 a0_3 a0_4 a2).bind fun t362 => ((outpostref03_told.f kj10 a0_0 a0_1 a0_2 a0_3 a0_4 (Go.bits .xor .u64 t360 t362)).bind fun t363 => (some (t363, 0)))) = some (r1, r2) := H
              have A31 := Aside0.mk A310
              clear A310
              replace H := Option.bind_eq_some_iff.mp H
              obtain ⟨t362, A320, H⟩ := H
              replace H : ((outpostref03_told.f kj10 a0_0 a0_1 a0_2 a0_3 a0_4 (Go.bits .xor .u64 t360 t362)).bind fun t363 => (some (t363, 0))) = some (r1, r2) := H
              have A32 := Aside0.mk A320
              clear A320
              replace H := Option.bind_eq_some_iff.mp H
              obtain ⟨t363, A330, H⟩ := H
              replace H : (some (t363, 0)) = some (r1, r2) := H
              have A33 := Aside0.mk A330
              clear A330
              simp only [Option.some.injEq, Prod.mk.injEq] at H
              obtain ⟨rfl, rfl⟩ := H
              have hcz34_0 : wc.cell? ⟨gb351, 0, none⟩ = some (.int .i64 a0_0) := (blk_cell BK351.out 0).trans rfl
              have hcz34_1 : wc.cell? ⟨gb351, 1, none⟩ = some (.int .u32 a0_1) := (blk_cell BK351.out 1).trans rfl
              have hcz34_2 : wc.cell? ⟨gb351, 2, none⟩ = some (.int .u32 a0_2) := (blk_cell BK351.out 2).trans rfl
              have hcz34_3 : wc.cell? ⟨gb351, 3, none⟩ = some (.int .u32 a0_3) := (blk_cell BK351.out 3).trans rfl
              have hcz34_4 : wc.cell? ⟨gb351, 4, none⟩ = some (.bool a0_4) := (blk_cell BK351.out 4).trans rfl
              have hfz34_0 := blk_frozen BK351.out 0
              have hfz34_1 := blk_frozen BK351.out 1
              have hfz34_2 := blk_frozen BK351.out 2
              have hfz34_3 := blk_frozen BK351.out 3
              have hfz34_4 := blk_frozen BK351.out 4
              try go_wp2_with (first | ((with_reducible refine gate_callee (f := 54) rfl ?_); refine goesL_ (some 40) rfl rfl Try.func54 (by kernel_rfl) rfl #[.int .u64 2, .int .u64 8, .int .u64 (IntKind.u64.wrap ((IntKind.u64.wrap (a0_1)) + (ji27)))] rfl (by (try simp only [List.map_toArray, List.map_cons, List.map_nil]); first | done | (simp only [hji27]; rfl) | rfl | (simp only [List.length_drop, List.length_take]; rfl) | (simp [Act.eval, IntKind.wrap_u8, IntKind.wrap_u32]; done)) ?_; (with_reducible refine (outpostref02_PowMod.calls kj10 2 8 (IntKind.u64.wrap ((IntKind.u64.wrap (a0_1)) + (ji27))) t355 t356 _ A28.out).mono ?_); rintro e w' ⟨rfl, ⟨nd, rfl⟩⟩; refine ⟨_, rfl, ?_⟩) | ((with_reducible refine gate_callee (f := 54) rfl ?_); refine goesL_ (some 48) rfl rfl Try.func54 (by kernel_rfl) rfl #[.int .u64 t355, .int .u64 (IntKind.u64.wrap (a3)), .int .u64 (IntKind.u64.wrap ((IntKind.u64.wrap (a0_1)) + (ji27)))] rfl (by (try simp only [List.map_toArray, List.map_cons, List.map_nil]); first | done | (simp only [hji27]; rfl) | rfl | (simp only [List.length_drop, List.length_take]; rfl) | (simp [Act.eval, IntKind.wrap_u8, IntKind.wrap_u32]; done)) ?_; (with_reducible refine (outpostref02_PowMod.calls kj10 t355 (IntKind.u64.wrap (a3)) (IntKind.u64.wrap ((IntKind.u64.wrap (a0_1)) + (ji27))) t357 t358 _ A29.out).mono ?_); rintro e w' ⟨rfl, ⟨nd, rfl⟩⟩; refine ⟨_, rfl, ?_⟩))
              (try (rw [drewN_self wc]; generalize hq_ : World.drewN wc _ = wc; have n0_ : Aside0 (wc.heap[gb351]? = some (.cells #[.int .i64 a0_0, .int .u32 a0_1, .int .u32 a0_2, .int .u32 a0_3, .bool a0_4] 24 (0, 0))) := ⟨by rw [← hq_]; exact (by (with_reducible repeat (first | refine blk_drewN ?_ _ | refine blk_drew ?_ | refine blk_alloc ?_ _)); exact BK351.out)⟩; have n1_ : Aside0 (Below w.heap.size w wc) := ⟨by rw [← hq_]; exact (by repeat (first | (with_reducible first | exact HB.out | apply below_alloc | apply pw_below_drewN | apply below_drew1 | refine below_set ?_ GE351.out) | exact HB.out))⟩; clear BK351 HB hq_; have BK351 := n0_; have HB := n1_; clear n0_ n1_))
              have n0_ := Aside0.mk (blk_drew BK351.out)
              have n1_ := Aside0.mk (below_drew1 HB.out)
              clear BK351
              clear HB
              have BK351 := n0_
              have HB := n1_
              clear n0_ n1_
              refine start_ (n := 15) (S := fun w' => w'.cell? ⟨gb351, 0, none⟩ = some (.int .i64 a0_0) ∧ w'.cell? ⟨gb351, 1, none⟩ = some (.int .u32 a0_1) ∧ w'.cell? ⟨gb351, 2, none⟩ = some (.int .u32 a0_2) ∧ w'.cell? ⟨gb351, 3, none⟩ = some (.int .u32 a0_3) ∧ w'.cell? ⟨gb351, 4, none⟩ = some (.bool a0_4)) (ds := []) #[false, false, false, false, false, false, false, false, false, false, false, false, false, false, false] (by kernel_rfl) rfl rfl ⟨(blk_cell BK351.out 0).trans rfl, (blk_cell BK351.out 1).trans rfl, (blk_cell BK351.out 2).trans rfl, (blk_cell BK351.out 3).trans rfl, (blk_cell BK351.out 4).trans rfl⟩ (fun hHeld => ?_); refine with_tabW outpostref03_Join.tab10 outpostref03_Join.bits10 (fun HT_ HW_ => ?_)
              generalize wc.drew = w35 at BK351 HB hHeld ⊢
              refine pure_ (i := 1) (N := some 53) (v := ?_) (a' := ?_) #[false, true, false, false, false, false, false, false, false, false, false, false, false, false, false] rfl rfl (any_of HT_.out (by kernel_rfl)) (fun _ _ _ h => h) (Or.inl ⟨by rfl, ?_⟩) ?_ ?_
              rotate_left
              · intro w'
                go_simp
                with_reducible rfl
              rotate_left
              · simp only [Act.put, List.setIfInBounds_toArray, List.set_cons_zero, List.set_cons_succ, i64_w, i32_w]
                rfl
              refine pure_ (i := 3) (N := some 55) (v := ?_) (a' := ?_) #[false, true, false, true, false, false, false, false, false, false, false, false, false, false, false] rfl rfl (any_of HT_.out (by kernel_rfl)) (fun _ _ _ h => h) (Or.inl ⟨by rfl, ?_⟩) ?_ ?_
              rotate_left
              · intro w'
                go_simp
                with_reducible rfl
              rotate_left
              · simp only [Act.put, List.setIfInBounds_toArray, List.set_cons_zero, List.set_cons_succ, i64_w, i32_w]
                rfl
              refine pure_ (i := 7) (N := some 59) (v := ?_) (a' := ?_) #[false, true, false, true, false, false, false, true, false, false, false, false, false, false, false] rfl rfl (any_of HT_.out (by kernel_rfl)) (fun _ _ _ h => h) (Or.inl ⟨by rfl, ?_⟩) ?_ ?_
              rotate_left
              · intro w'
                go_simp
                with_reducible rfl
              rotate_left
              · simp only [Act.put, List.setIfInBounds_toArray, List.set_cons_zero, List.set_cons_succ, i64_w, i32_w]
                rfl
              refine pure_ (i := 8) (N := some 60) (v := ?_) (a' := ?_) #[false, true, false, true, false, false, false, true, true, false, false, false, false, false, false] rfl rfl (any_of HT_.out (by kernel_rfl)) (fun _ _ _ h => h) (Or.inl ⟨by rfl, ?_⟩) ?_ ?_
              rotate_left
              · intro w'
                go_simp
                with_reducible rfl
              rotate_left
              · simp only [Act.put, List.setIfInBounds_toArray, List.set_cons_zero, List.set_cons_succ, i64_w, i32_w]
                rfl
              refine take_ (i := 0) (N := some 52) (v := ?_) (a' := ?_) #[true, true, false, true, false, false, false, true, true, false, false, false, false, false, false] rfl rfl (take_ofW HT_.out HW_.out (by kernel_rfl)) (fun _ _ _ h => h) (Or.inl ⟨by rfl, ?_⟩) hHeld ?_ ?_
              rotate_left
              · rintro w' ⟨s0, s1, s2, s3, s4⟩
                go_simp
                with_reducible rfl
              rotate_left
              · simp only [Act.put, List.setIfInBounds_toArray, List.set_cons_zero, List.set_cons_succ, i64_w, i32_w]
                rfl
              refine take_ (i := 4) (N := some 56) (v := ?_) (a' := ?_) #[true, true, false, true, true, false, false, true, true, false, false, false, false, false, false] rfl rfl (take_ofW HT_.out HW_.out (by kernel_rfl)) (fun _ _ _ h => h) (Or.inl ⟨by rfl, ?_⟩) hHeld ?_ ?_
              rotate_left
              · rintro w' ⟨s0, s1, s2, s3, s4⟩
                go_simp
                with_reducible rfl
              rotate_left
              · simp only [Act.put, List.setIfInBounds_toArray, List.set_cons_zero, List.set_cons_succ, i64_w, i32_w]
                rfl
              refine pure_ (i := 5) (N := some 57) (v := ?_) (a' := ?_) #[true, true, false, true, true, true, false, true, true, false, false, false, false, false, false] rfl rfl (any_of HT_.out (by kernel_rfl)) (fun _ _ _ h => h) (Or.inl ⟨by rfl, ?_⟩) ?_ ?_
              rotate_left
              · intro w'
                go_simp
                with_reducible rfl
              rotate_left
              · simp only [Act.put, List.setIfInBounds_toArray, List.set_cons_zero, List.set_cons_succ, i64_w, i32_w]
                rfl
              refine one_ (i := 2) (N := some 54) #[true, true, true, true, true, true, false, true, true, false, false, false, false, false, false] rfl rfl (one_of HT_.out (by kernel_rfl)) (by decide) (fun K hK => ?_)
              refine goes_ Try.func56 (by kernel_rfl) rfl #[.agg #[.int .i64 a0_0, .int .u32 a0_1, .int .u32 a0_2, .int .u32 a0_3, .bool a0_4], .int .u32 a1] (by rfl) rfl rfl (by (try simp only [List.map_toArray, List.map_cons, List.map_nil]); first | done | rfl | (simp only [List.length_drop, List.length_take]; rfl) | (simp [Act.eval, IntKind.wrap_u8, IntKind.wrap_u32]; done)) ?_
              with_reducible refine (outpostref03_back.calls kj10 a0_0 a0_1 a0_2 a0_3 a0_4 a1 t359 _ A30.out).mono ?_
              rintro e w36 ⟨rfl, hb⟩
              refine ⟨_, rfl, ?_⟩
              have n0_ := Aside0.mk (blk_below (g := gb351) (o := .cells #[.int .i64 a0_0, .int .u32 a0_1, .int .u32 a0_2, .int .u32 a0_3, .bool a0_4] 24 (0, 0)) (by (with_reducible repeat (first | refine blk_drewN ?_ _ | refine blk_drew ?_ | refine blk_alloc ?_ _)); exact BK351.out) hb)
              have n1_ := Aside0.mk (below_step (by repeat (first | (with_reducible first | exact HB.out | apply below_alloc | apply pw_below_drewN | apply below_drew1 | refine below_set ?_ GE351.out) | exact HB.out)) hb)
              clear BK351
              clear HB
              have BK351 := n0_
              have HB := n1_
              clear n0_ n1_
              (try clear hb)
              (try clear hb2)
              (try clear hk)
              (try clear hi)
              refine hK.out _ _ ⟨(blk_cell BK351.out 0).trans rfl, (blk_cell BK351.out 1).trans rfl, (blk_cell BK351.out 2).trans rfl, (blk_cell BK351.out 3).trans rfl, (blk_cell BK351.out 4).trans rfl⟩ (fun hHeld => ?_)
              clear hK K
              refine norm_ (a' := ?_) ?_ ?_
              rotate_left
              · show Act.put _ (some 54) _ = _
                simp only [Act.put, List.setIfInBounds_toArray, List.set_cons_zero, List.set_cons_succ, i64_w, i32_w]
                rfl
              refine pure_ (i := 6) (N := some 58) (v := ?_) (a' := ?_) #[true, true, true, true, true, true, true, true, true, false, false, false, false, false, false] rfl rfl (any_of HT_.out (by kernel_rfl)) (fun _ _ _ h => h) (Or.inl ⟨by rfl, ?_⟩) ?_ ?_
              rotate_left
              · intro w'
                go_simp
                with_reducible rfl
              rotate_left
              · simp only [Act.put, List.setIfInBounds_toArray, List.set_cons_zero, List.set_cons_succ, i64_w, i32_w]
                rfl
              refine one_ (i := 9) (N := some 61) #[true, true, true, true, true, true, true, true, true, true, false, false, false, false, false] rfl rfl (one_of HT_.out (by kernel_rfl)) (by decide) (fun K hK => ?_)
              refine goes_ Try.func55 (by kernel_rfl) rfl #[.int .u64 (Go.bits .xor .u64 t359 (IntKind.u64.wrap (a0_2))), .int .u64 t357, .int .u64 (IntKind.u64.wrap ((IntKind.u64.wrap (a0_1)) + (ji27)))] (by rfl) rfl rfl (by (try simp only [List.map_toArray, List.map_cons, List.map_nil]); first | done | (simp only [hji27]; rfl) | rfl | (simp only [List.length_drop, List.length_take]; rfl) | (simp [Act.eval, IntKind.wrap_u8, IntKind.wrap_u32]; done)) ?_
              with_reducible refine (outpostref02_MulMod.calls kj10 (Go.bits .xor .u64 t359 (IntKind.u64.wrap (a0_2))) t357 (IntKind.u64.wrap ((IntKind.u64.wrap (a0_1)) + (ji27))) t360 t361 _ A31.out).mono ?_
              rintro e w' ⟨rfl, ⟨nd, rfl⟩⟩
              refine ⟨_, rfl, ?_⟩
              refine hK.out _ _ ⟨(blk_cell BK351.out 0).trans rfl, (blk_cell BK351.out 1).trans rfl, (blk_cell BK351.out 2).trans rfl, (blk_cell BK351.out 3).trans rfl, (blk_cell BK351.out 4).trans rfl⟩ (fun hHeld => ?_)
              clear hK K
              refine norm_ (a' := ?_) ?_ ?_
              rotate_left
              · show Act.put _ (some 61) _ = _
                simp only [Act.put, List.setIfInBounds_toArray, List.set_cons_zero, List.set_cons_succ, i64_w, i32_w]
                rfl
              refine pure_ (i := 10) (N := some 51) (v := ?_) (a' := ?_) #[true, true, true, true, true, true, true, true, true, true, true, false, false, false, false] rfl rfl (any_of HT_.out (by kernel_rfl)) (fun _ _ _ h => h) (Or.inl ⟨by rfl, ?_⟩) ?_ ?_
              rotate_left
              · intro w'
                go_simp
                with_reducible rfl
              rotate_left
              · simp only [Act.put, List.setIfInBounds_toArray, List.set_cons_zero, List.set_cons_succ, i64_w, i32_w]
                rfl
              refine pure_ (i := 11) (N := some 62) (v := ?_) (a' := ?_) #[true, true, true, true, true, true, true, true, true, true, true, true, false, false, false] rfl rfl (any_of HT_.out (by kernel_rfl)) (fun _ _ _ h => h) (Or.inl ⟨by rfl, ?_⟩) ?_ ?_
              rotate_left
              · intro w'
                go_simp
                with_reducible rfl
              rotate_left
              · simp only [Act.put, List.setIfInBounds_toArray, List.set_cons_zero, List.set_cons_succ, i64_w, i32_w]
                rfl
              refine pure_ (i := 12) (N := some 63) (v := ?_) (a' := ?_) #[true, true, true, true, true, true, true, true, true, true, true, true, true, false, false] rfl rfl (any_of HT_.out (by kernel_rfl)) (fun _ _ _ h => h) (Or.inl ⟨by rfl, ?_⟩) ?_ ?_
              rotate_left
              · intro w'
                go_simp
                with_reducible rfl
              rotate_left
              · simp only [Act.put, List.setIfInBounds_toArray, List.set_cons_zero, List.set_cons_succ, i64_w, i32_w]
                rfl
              refine pure_ (i := 13) (N := some 15) (v := ?_) (a' := ?_) #[true, true, true, true, true, true, true, true, true, true, true, true, true, true, false] rfl rfl (any_of HT_.out (by kernel_rfl)) (fun _ _ _ h => h) (Or.inl ⟨by rfl, ?_⟩) ?_ ?_
              rotate_left
              · intro w'
                go_simp
                with_reducible rfl
              rotate_left
              · simp only [Act.put, List.setIfInBounds_toArray, List.set_cons_zero, List.set_cons_succ, i64_w, i32_w]
                rfl
              refine pure_ (i := 14) (N := some 16) (v := ?_) (a' := ?_) #[true, true, true, true, true, true, true, true, true, true, true, true, true, true, true] rfl rfl (any_of HT_.out (by kernel_rfl)) (fun _ _ _ h => h) (Or.inl ⟨by rfl, ?_⟩) ?_ ?_
              rotate_left
              · intro w'
                go_simp
                with_reducible rfl
              rotate_left
              · simp only [Act.put, List.setIfInBounds_toArray, List.set_cons_zero, List.set_cons_succ, i64_w, i32_w]
                rfl
              refine done_ (done_of HT_.out (by kernel_rfl)) ?_
              try go_wp2
              (try (rw [drewN_self w36]; generalize hq_ : World.drewN w36 _ = w36; have n0_ : Aside0 (w36.heap[gb351]? = some (.cells #[.int .i64 a0_0, .int .u32 a0_1, .int .u32 a0_2, .int .u32 a0_3, .bool a0_4] 24 (0, 0))) := ⟨by rw [← hq_]; exact (by (with_reducible repeat (first | refine blk_drewN ?_ _ | refine blk_drew ?_ | refine blk_alloc ?_ _)); exact BK351.out)⟩; have n1_ : Aside0 (Below w.heap.size w w36) := ⟨by rw [← hq_]; exact (by repeat (first | (with_reducible first | exact HB.out | apply below_alloc | apply pw_below_drewN | apply below_drew1 | refine below_set ?_ GE351.out) | exact HB.out))⟩; clear BK351 HB hq_; have BK351 := n0_; have HB := n1_; clear n0_ n1_))
              have n0_ := Aside0.mk (blk_drew BK351.out)
              have n1_ := Aside0.mk (below_drew1 HB.out)
              clear BK351
              clear HB
              have BK351 := n0_
              have HB := n1_
              clear n0_ n1_
              refine start_ (n := 9) (S := fun w' => w'.cell? ⟨gb351, 0, none⟩ = some (.int .i64 a0_0) ∧ w'.cell? ⟨gb351, 1, none⟩ = some (.int .u32 a0_1) ∧ w'.cell? ⟨gb351, 2, none⟩ = some (.int .u32 a0_2) ∧ w'.cell? ⟨gb351, 3, none⟩ = some (.int .u32 a0_3) ∧ w'.cell? ⟨gb351, 4, none⟩ = some (.bool a0_4)) (ds := []) #[false, false, false, false, false, false, false, false, false] (by kernel_rfl) rfl rfl ⟨(blk_cell BK351.out 0).trans rfl, (blk_cell BK351.out 1).trans rfl, (blk_cell BK351.out 2).trans rfl, (blk_cell BK351.out 3).trans rfl, (blk_cell BK351.out 4).trans rfl⟩ (fun hHeld => ?_); refine with_tabW outpostref03_Join.tab11 outpostref03_Join.bits11 (fun HT_ HW_ => ?_)
              generalize w36.drew = w37 at BK351 HB hHeld ⊢
              refine pure_ (i := 1) (N := some 65) (v := ?_) (a' := ?_) #[false, true, false, false, false, false, false, false, false] rfl rfl (any_of HT_.out (by kernel_rfl)) (fun _ _ _ h => h) (Or.inl ⟨by rfl, ?_⟩) ?_ ?_
              rotate_left
              · intro w'
                go_simp
                with_reducible rfl
              rotate_left
              · simp only [Act.put, List.setIfInBounds_toArray, List.set_cons_zero, List.set_cons_succ, i64_w, i32_w]
                rfl
              refine pure_ (i := 3) (N := some 67) (v := ?_) (a' := ?_) #[false, true, false, true, false, false, false, false, false] rfl rfl (any_of HT_.out (by kernel_rfl)) (fun _ _ _ h => h) (Or.inl ⟨by rfl, ?_⟩) ?_ ?_
              rotate_left
              · intro w'
                go_simp
                with_reducible rfl
              rotate_left
              · simp only [Act.put, List.setIfInBounds_toArray, List.set_cons_zero, List.set_cons_succ, i64_w, i32_w]
                rfl
              refine take_ (i := 0) (N := some 64) (v := ?_) (a' := ?_) #[true, true, false, true, false, false, false, false, false] rfl rfl (take_ofW HT_.out HW_.out (by kernel_rfl)) (fun _ _ _ h => h) (Or.inl ⟨by rfl, ?_⟩) hHeld ?_ ?_
              rotate_left
              · rintro w' ⟨s0, s1, s2, s3, s4⟩
                go_simp
                with_reducible rfl
              rotate_left
              · simp only [Act.put, List.setIfInBounds_toArray, List.set_cons_zero, List.set_cons_succ, i64_w, i32_w]
                rfl
              refine take_ (i := 2) (N := some 66) (v := ?_) (a' := ?_) #[true, true, true, true, false, false, false, false, false] rfl rfl (take_ofW HT_.out HW_.out (by kernel_rfl)) (fun _ _ _ h => h) (Or.inl ⟨by rfl, ?_⟩) hHeld ?_ ?_
              rotate_left
              · rintro w' ⟨s0, s1, s2, s3, s4⟩
                go_simp
                with_reducible rfl
              rotate_left
              · simp only [Act.put, List.setIfInBounds_toArray, List.set_cons_zero, List.set_cons_succ, i64_w, i32_w]
                rfl
              refine one_ (i := 4) (N := some 68) #[true, true, true, true, true, false, false, false, false] rfl rfl (one_of HT_.out (by kernel_rfl)) (by decide) (fun K hK => ?_)
              refine goes_ Try.func56 (by kernel_rfl) rfl #[.agg #[.int .i64 a0_0, .int .u32 a0_1, .int .u32 a0_2, .int .u32 a0_3, .bool a0_4], .int .u32 a2] (by rfl) rfl rfl (by (try simp only [List.map_toArray, List.map_cons, List.map_nil]); first | done | rfl | (simp only [List.length_drop, List.length_take]; rfl) | (simp [Act.eval, IntKind.wrap_u8, IntKind.wrap_u32]; done)) ?_
              with_reducible refine (outpostref03_back.calls kj10 a0_0 a0_1 a0_2 a0_3 a0_4 a2 t362 _ A32.out).mono ?_
              rintro e w38 ⟨rfl, hb⟩
              refine ⟨_, rfl, ?_⟩
              have n0_ := Aside0.mk (blk_below (g := gb351) (o := .cells #[.int .i64 a0_0, .int .u32 a0_1, .int .u32 a0_2, .int .u32 a0_3, .bool a0_4] 24 (0, 0)) (by (with_reducible repeat (first | refine blk_drewN ?_ _ | refine blk_drew ?_ | refine blk_alloc ?_ _)); exact BK351.out) hb)
              have n1_ := Aside0.mk (below_step (by repeat (first | (with_reducible first | exact HB.out | apply below_alloc | apply pw_below_drewN | apply below_drew1 | refine below_set ?_ GE351.out) | exact HB.out)) hb)
              clear BK351
              clear HB
              have BK351 := n0_
              have HB := n1_
              clear n0_ n1_
              (try clear hb)
              (try clear hb2)
              (try clear hk)
              (try clear hi)
              refine hK.out _ _ ⟨(blk_cell BK351.out 0).trans rfl, (blk_cell BK351.out 1).trans rfl, (blk_cell BK351.out 2).trans rfl, (blk_cell BK351.out 3).trans rfl, (blk_cell BK351.out 4).trans rfl⟩ (fun hHeld => ?_)
              clear hK K
              refine norm_ (a' := ?_) ?_ ?_
              rotate_left
              · show Act.put _ (some 68) _ = _
                simp only [Act.put, List.setIfInBounds_toArray, List.set_cons_zero, List.set_cons_succ, i64_w, i32_w]
                rfl
              refine pure_ (i := 5) (N := some 69) (v := ?_) (a' := ?_) #[true, true, true, true, true, true, false, false, false] rfl rfl (any_of HT_.out (by kernel_rfl)) (fun _ _ _ h => h) (Or.inl ⟨by rfl, ?_⟩) ?_ ?_
              rotate_left
              · intro w'
                go_simp
                with_reducible rfl
              rotate_left
              · simp only [Act.put, List.setIfInBounds_toArray, List.set_cons_zero, List.set_cons_succ, i64_w, i32_w]
                rfl
              refine one_ (i := 6) (N := some 70) #[true, true, true, true, true, true, true, false, false] rfl rfl (one_of HT_.out (by kernel_rfl)) (by decide) (fun K hK => ?_)
              refine goes_ Try.func50 (by kernel_rfl) rfl #[.agg #[.int .i64 a0_0, .int .u32 a0_1, .int .u32 a0_2, .int .u32 a0_3, .bool a0_4], .int .u64 (Go.bits .xor .u64 t360 t362)] (by rfl) rfl rfl (by (try simp only [List.map_toArray, List.map_cons, List.map_nil]); first | done | rfl | (simp only [List.length_drop, List.length_take]; rfl) | (simp [Act.eval, IntKind.wrap_u8, IntKind.wrap_u32]; done)) ?_
              with_reducible refine (outpostref03_told.calls kj10 a0_0 a0_1 a0_2 a0_3 a0_4 (Go.bits .xor .u64 t360 t362) t363 _ A33.out).mono ?_
              rintro e w39 ⟨rfl, hb⟩
              refine ⟨_, rfl, ?_⟩
              have n0_ := Aside0.mk (blk_below (g := gb351) (o := .cells #[.int .i64 a0_0, .int .u32 a0_1, .int .u32 a0_2, .int .u32 a0_3, .bool a0_4] 24 (0, 0)) (by (with_reducible repeat (first | refine blk_drewN ?_ _ | refine blk_drew ?_ | refine blk_alloc ?_ _)); exact BK351.out) hb)
              have n1_ := Aside0.mk (below_step (by repeat (first | (with_reducible first | exact HB.out | apply below_alloc | apply pw_below_drewN | apply below_drew1 | refine below_set ?_ GE351.out) | exact HB.out)) hb)
              clear BK351
              clear HB
              have BK351 := n0_
              have HB := n1_
              clear n0_ n1_
              (try clear hb)
              (try clear hb2)
              (try clear hk)
              (try clear hi)
              refine hK.out _ _ ⟨(blk_cell BK351.out 0).trans rfl, (blk_cell BK351.out 1).trans rfl, (blk_cell BK351.out 2).trans rfl, (blk_cell BK351.out 3).trans rfl, (blk_cell BK351.out 4).trans rfl⟩ (fun hHeld => ?_)
              clear hK K
              refine norm_ (a' := ?_) ?_ ?_
              rotate_left
              · show Act.put _ (some 70) _ = _
                simp only [Act.put, List.setIfInBounds_toArray, List.set_cons_zero, List.set_cons_succ, i64_w, i32_w]
                rfl
              refine pure_ (i := 7) (N := some 8) (v := ?_) (a' := ?_) #[true, true, true, true, true, true, true, true, false] rfl rfl (any_of HT_.out (by kernel_rfl)) (fun _ _ _ h => h) (Or.inl ⟨by rfl, ?_⟩) ?_ ?_
              rotate_left
              · intro w'
                go_simp
                with_reducible rfl
              rotate_left
              · simp only [Act.put, List.setIfInBounds_toArray, List.set_cons_zero, List.set_cons_succ, i64_w, i32_w]
                rfl
              refine pure_ (i := 8) (N := some 9) (v := ?_) (a' := ?_) #[true, true, true, true, true, true, true, true, true] rfl rfl (any_of HT_.out (by kernel_rfl)) (fun _ _ _ h => h) (Or.inl ⟨by rfl, ?_⟩) ?_ ?_
              rotate_left
              · intro w'
                go_simp
                with_reducible rfl
              rotate_left
              · simp only [Act.put, List.setIfInBounds_toArray, List.set_cons_zero, List.set_cons_succ, i64_w, i32_w]
                rfl
              refine done_ (done_of HT_.out (by kernel_rfl)) ?_
              try go_wp2
              go_ret2
              exact ⟨by first | rfl | (simp [errW_none, errW_some] <;> rfl) | (simp only [← hji25, ← hji27]; first | rfl | (simp [errW_none, errW_some] <;> rfl)) | (simp [*, errW_none, errW_some] <;> rfl), by repeat (first | (with_reducible first | exact HB.out | apply below_alloc | apply pw_below_drewN | apply below_drew1 | refine below_set ?_ GE351.out) | exact HB.out)⟩
            · rw [if_neg c26] at H
              exact absurd H (by simp)
  · rw [if_neg c6] at H
    have c6b0 : (t352 == 0) = false := beq_eq_false_iff_ne.mpr c6
    have c6b1 : (t352 != 0) = true := bne_iff_ne.mpr c6
    simp only [Option.some.injEq, Prod.mk.injEq] at H
    obtain ⟨rfl, rfl⟩ := H
    go_enter Try.func38, Try.ntmps38
    go_wp2_with (first | ((with_reducible refine gate_dst (N := 4) rfl ?_); refine box_event ?hg (N := 4) ?hd (cs := #[.int .i64 a0_0, .int .u32 a0_1, .int .u32 a0_2, .int .u32 a0_3, .bool a0_4]) (t := 24) ?hr ?_; (case hd => rfl); (case hg => rfl); (case hr => first | (go_simp; done) | (go_simp; rfl)); intro gb351 hg w40 hbox hb; have n0_ := Aside0.mk (below_step (by repeat (first | (with_reducible first | exact HB.out | apply below_alloc | apply pw_below_drewN | apply below_drew1) | exact HB.out)) hb); have n1_ := Aside0.mk (hbox); have n2_ := Aside0.mk ((by rw [hg]; exact (below_size (by repeat (first | (with_reducible first | exact HB.out | apply below_alloc | apply pw_below_drewN | apply below_drew1) | exact HB.out))) : w.heap.size ≤ gb351)); have n3_ := Aside0.mk ((by rw [hg]; exact (below_size (by repeat (first | (with_reducible first | exact HB.out | apply below_alloc | apply pw_below_drewN | apply below_drew1) | exact HB.out))) : w.heap.size ≤ gb351)); clear HB; have HB := n0_; have BK351 := n1_; have GW351 := n2_; have GE351 := n3_; clear n0_ n1_ n2_ n3_; clear hb hbox hg; have hcz41_0 : w40.cell? ⟨gb351, 0, none⟩ = some (.int .i64 a0_0) := (blk_cell BK351.out 0).trans rfl; have hcz41_1 : w40.cell? ⟨gb351, 1, none⟩ = some (.int .u32 a0_1) := (blk_cell BK351.out 1).trans rfl; have hcz41_2 : w40.cell? ⟨gb351, 2, none⟩ = some (.int .u32 a0_2) := (blk_cell BK351.out 2).trans rfl; have hcz41_3 : w40.cell? ⟨gb351, 3, none⟩ = some (.int .u32 a0_3) := (blk_cell BK351.out 3).trans rfl; have hcz41_4 : w40.cell? ⟨gb351, 4, none⟩ = some (.bool a0_4) := (blk_cell BK351.out 4).trans rfl; have hfz41_0 := blk_frozen BK351.out 0; have hfz41_1 := blk_frozen BK351.out 1; have hfz41_2 := blk_frozen BK351.out 2; have hfz41_3 := blk_frozen BK351.out 3; have hfz41_4 := blk_frozen BK351.out 4) | ((with_reducible refine gate_callee (f := 17) rfl ?_); refine goesL_ (some 18) rfl rfl Try.func17 (by kernel_rfl) rfl #[.agg #[.int .i64 a0_0, .int .u32 a0_1, .int .u32 a0_2, .int .u32 a0_3, .bool a0_4]] rfl (by (try simp only [List.map_toArray, List.map_cons, List.map_nil]); first | done | rfl | (simp only [List.length_drop, List.length_take]; rfl) | (simp [Act.eval, IntKind.wrap_u8, IntKind.wrap_u32]; done)) ?_; (with_reducible refine (outpostref03_Check.calls k a0_0 a0_1 a0_2 a0_3 a0_4 t352 _ A5.out).mono ?_); rintro e w42 ⟨rfl, hb⟩; refine ⟨_, rfl, ?_⟩; have n0_ := Aside0.mk (blk_below (g := gb351) (o := .cells #[.int .i64 a0_0, .int .u32 a0_1, .int .u32 a0_2, .int .u32 a0_3, .bool a0_4] 24 (0, 0)) (by (with_reducible repeat (first | refine blk_drewN ?_ _ | refine blk_drew ?_ | refine blk_alloc ?_ _)); exact BK351.out) hb); have n1_ := Aside0.mk (below_step (by repeat (first | (with_reducible first | exact HB.out | apply below_alloc | apply pw_below_drewN | apply below_drew1 | refine below_set ?_ GE351.out) | exact HB.out)) hb); clear BK351; clear HB; have BK351 := n0_; have HB := n1_; clear n0_ n1_; (try clear hb); (try clear hb2); (try clear hk); (try clear hi)))
    go_ret2
    exact ⟨by first | rfl | (simp [errW_none, errW_some] <;> rfl) | (simp [*, errW_none, errW_some] <;> rfl), by repeat (first | (with_reducible first | exact HB.out | apply below_alloc | apply pw_below_drewN | apply below_drew1 | refine below_set ?_ GE351.out) | exact HB.out)⟩

/-! ### outpostlaw03_CrcJoins: function 11 -/
def outpostlaw03_CrcJoins.f (k : Nat) (a0_0 : Int) (a0_1 : Int) (a0_2 : Int) (a0_3 : Int) (a0_4 : Bool) (a1 : Int) (a2 : Int) (a3 : Int) : Option (Bool) := (crc_Join.f k a0_0 a0_1 a0_2 a0_3 a0_4 a1 a2 a3).bind fun bt365 => ((outpostref03_Join.f k a0_0 a0_1 a0_2 a0_3 a0_4 a1 a2 a3).bind fun bt367 => ((outpostlaw03_Good.f a0_0 a0_1 a0_2 a0_3 a0_4).bind fun bt369 => (if 0 ≤ (IntKind.u64.wrap (bt369.1)) then ((crc_Join.f k bt369.1 bt369.2.1 bt369.2.2.1 bt369.2.2.2.1 bt369.2.2.2.2 (Go.bits .and .u32 a1 ((IntKind.u64.wrap ((shl .u64 1 (IntKind.u64.wrap (bt369.1))) - 1)) % 4294967296)) (Go.bits .and .u32 a2 ((IntKind.u64.wrap ((shl .u64 1 (IntKind.u64.wrap (bt369.1))) - 1)) % 4294967296)) a3).bind fun bt375 => ((outpostref03_Join.f k bt369.1 bt369.2.1 bt369.2.2.1 bt369.2.2.2.1 bt369.2.2.2.2 (Go.bits .and .u32 a1 ((IntKind.u64.wrap ((shl .u64 1 (IntKind.u64.wrap (bt369.1))) - 1)) % 4294967296)) (Go.bits .and .u32 a2 ((IntKind.u64.wrap ((shl .u64 1 (IntKind.u64.wrap (bt369.1))) - 1)) % 4294967296)) a3).bind fun bt377 => (if bt365.1 = bt367.1 then ((outpostlaw03_num.f bt365.2).bind fun t379 => (if t379 = bt367.2 then (if bt375.1 = bt377.1 then ((outpostlaw03_num.f bt375.2).bind fun t380 => (if t380 = bt377.2 then ((outpostlaw03_knows.f).bind fun t381 => (some t381)) else (some false))) else (some false)) else (some false))) else (some false)))) else (none))))
theorem outpostlaw03_CrcJoins.mono : ∀ a0 a1 a2 a3 a4 a5 a6 a7 k, LeO (outpostlaw03_CrcJoins.f k a0 a1 a2 a3 a4 a5 a6 a7) (outpostlaw03_CrcJoins.f (k + 1) a0 a1 a2 a3 a4 a5 a6 a7) := by
  intro a0 a1 a2 a3 a4 a5 a6 a7 k
  unfold outpostlaw03_CrcJoins.f
  repeat' first
      | (with_reducible exact crc_Join.mono _ _ _ _ _ _ _ _ _)
      | (with_reducible exact outpostref03_Join.mono _ _ _ _ _ _ _ _ _)
      | (with_reducible exact LeO.refl _)
      | (with_reducible exact LeO.none _)
      | (with_reducible refine LeO.ite ?_ ?_)
      | (with_reducible refine LeO.bind ?_ (fun _ => ?_))
      | exact crc_Join.mono _ _ _ _ _ _ _ _ _
      | exact outpostref03_Join.mono _ _ _ _ _ _ _ _ _
      | exact LeO.none _
      | refine LeO.ite ?_ ?_
      | refine LeO.bind ?_ (fun _ => ?_)
set_option maxHeartbeats 8000000 in
set_option maxRecDepth 100000 in
theorem outpostlaw03_CrcJoins.calls (k : Nat) (a0_0 : Int) (a0_1 : Int) (a0_2 : Int) (a0_3 : Int) (a0_4 : Bool) (a1 : Int) (a2 : Int) (a3 : Int) (r : Bool) (w : World) (h : outpostlaw03_CrcJoins.f k a0_0 a0_1 a0_2 a0_3 a0_4 a1 a2 a3 = some r) :
    Calls Try.prog 11 #[.agg #[.int .i64 a0_0, .int .u32 a0_1, .int .u32 a0_2, .int .u32 a0_3, .bool a0_4], .int .u32 a1, .int .u32 a2, .int .i64 a3] w fun e w' => e = .returned (.bool r) ∧ Below w.heap.size w w' := by
  have hu24 := Try.underlying24
  have HB := Aside0.mk (Below.refl w.heap.size w)
  have H : ((crc_Join.f k a0_0 a0_1 a0_2 a0_3 a0_4 a1 a2 a3).bind fun bt365 => ((outpostref03_Join.f k a0_0 a0_1 a0_2 a0_3 a0_4 a1 a2 a3).bind fun bt367 => ((outpostlaw03_Good.f a0_0 a0_1 a0_2 a0_3 a0_4).bind fun bt369 => (if 0 ≤ (IntKind.u64.wrap (bt369.1)) then ((crc_Join.f k bt369.1 bt369.2.1 bt369.2.2.1 bt369.2.2.2.1 bt369.2.2.2.2 (Go.bits .and .u32 a1 ((IntKind.u64.wrap ((shl .u64 1 (IntKind.u64.wrap (bt369.1))) - 1)) % 4294967296)) (Go.bits .and .u32 a2 ((IntKind.u64.wrap ((shl .u64 1 (IntKind.u64.wrap (bt369.1))) - 1)) % 4294967296)) a3).bind fun bt375 => ((outpostref03_Join.f k bt369.1 bt369.2.1 bt369.2.2.1 bt369.2.2.2.1 bt369.2.2.2.2 (Go.bits .and .u32 a1 ((IntKind.u64.wrap ((shl .u64 1 (IntKind.u64.wrap (bt369.1))) - 1)) % 4294967296)) (Go.bits .and .u32 a2 ((IntKind.u64.wrap ((shl .u64 1 (IntKind.u64.wrap (bt369.1))) - 1)) % 4294967296)) a3).bind fun bt377 => (if bt365.1 = bt367.1 then ((outpostlaw03_num.f bt365.2).bind fun t379 => (if t379 = bt367.2 then (if bt375.1 = bt377.1 then ((outpostlaw03_num.f bt375.2).bind fun t380 => (if t380 = bt377.2 then ((outpostlaw03_knows.f).bind fun t381 => (some t381)) else (some false))) else (some false)) else (some false))) else (some false)))) else (none))))) = some r := h
  clear h
  replace H := Option.bind_eq_some_iff.mp H
  obtain ⟨⟨t365, t366⟩, A50, H⟩ := H
  replace H : ((outpostref03_Join.f k a0_0 a0_1 a0_2 a0_3 a0_4 a1 a2 a3).bind fun bt367 => ((outpostlaw03_Good.f a0_0 a0_1 a0_2 a0_3 a0_4).bind fun bt369 => (if 0 ≤ (IntKind.u64.wrap (bt369.1)) then ((crc_Join.f k bt369.1 bt369.2.1 bt369.2.2.1 bt369.2.2.2.1 bt369.2.2.2.2 (Go.bits .and .u32 a1 ((IntKind.u64.wrap ((shl .u64 1 (IntKind.u64.wrap (bt369.1))) - 1)) % 4294967296)) (Go.bits .and .u32 a2 ((IntKind.u64.wrap ((shl .u64 1 (IntKind.u64.wrap (bt369.1))) - 1)) % 4294967296)) a3).bind fun bt375 => ((outpostref03_Join.f k bt369.1 bt369.2.1 bt369.2.2.1 bt369.2.2.2.1 bt369.2.2.2.2 (Go.bits .and .u32 a1 ((IntKind.u64.wrap ((shl .u64 1 (IntKind.u64.wrap (bt369.1))) - 1)) % 4294967296)) (Go.bits .and .u32 a2 ((IntKind.u64.wrap ((shl .u64 1 (IntKind.u64.wrap (bt369.1))) - 1)) % 4294967296)) a3).bind fun bt377 => (if t365 = bt367.1 then ((outpostlaw03_num.f t366).bind fun t379 => (if t379 = bt367.2 then (if bt375.1 = bt377.1 then ((outpostlaw03_num.f bt375.2).bind fun t380 => (if t380 = bt377.2 then ((outpostlaw03_knows.f).bind fun t381 => (some t381)) else (some false))) else (some false)) else (some false))) else (some false)))) else (none)))) = some r := H
  have A5 := Aside0.mk A50
  clear A50
  replace H := Option.bind_eq_some_iff.mp H
  obtain ⟨⟨t367, t368⟩, A60, H⟩ := H
  replace H : ((outpostlaw03_Good.f a0_0 a0_1 a0_2 a0_3 a0_4).bind fun bt369 => (if 0 ≤ (IntKind.u64.wrap (bt369.1)) then ((crc_Join.f k bt369.1 bt369.2.1 bt369.2.2.1 bt369.2.2.2.1 bt369.2.2.2.2 (Go.bits .and .u32 a1 ((IntKind.u64.wrap ((shl .u64 1 (IntKind.u64.wrap (bt369.1))) - 1)) % 4294967296)) (Go.bits .and .u32 a2 ((IntKind.u64.wrap ((shl .u64 1 (IntKind.u64.wrap (bt369.1))) - 1)) % 4294967296)) a3).bind fun bt375 => ((outpostref03_Join.f k bt369.1 bt369.2.1 bt369.2.2.1 bt369.2.2.2.1 bt369.2.2.2.2 (Go.bits .and .u32 a1 ((IntKind.u64.wrap ((shl .u64 1 (IntKind.u64.wrap (bt369.1))) - 1)) % 4294967296)) (Go.bits .and .u32 a2 ((IntKind.u64.wrap ((shl .u64 1 (IntKind.u64.wrap (bt369.1))) - 1)) % 4294967296)) a3).bind fun bt377 => (if t365 = t367 then ((outpostlaw03_num.f t366).bind fun t379 => (if t379 = t368 then (if bt375.1 = bt377.1 then ((outpostlaw03_num.f bt375.2).bind fun t380 => (if t380 = bt377.2 then ((outpostlaw03_knows.f).bind fun t381 => (some t381)) else (some false))) else (some false)) else (some false))) else (some false)))) else (none))) = some r := H
  have A6 := Aside0.mk A60
  clear A60
  replace H := Option.bind_eq_some_iff.mp H
  obtain ⟨⟨t369, t370, t371, t372, t373⟩, A70, H⟩ := H
  replace H : (if 0 ≤ (IntKind.u64.wrap (t369)) then ((crc_Join.f k t369 t370 t371 t372 t373 (Go.bits .and .u32 a1 ((IntKind.u64.wrap ((shl .u64 1 (IntKind.u64.wrap (t369))) - 1)) % 4294967296)) (Go.bits .and .u32 a2 ((IntKind.u64.wrap ((shl .u64 1 (IntKind.u64.wrap (t369))) - 1)) % 4294967296)) a3).bind fun bt375 => ((outpostref03_Join.f k t369 t370 t371 t372 t373 (Go.bits .and .u32 a1 ((IntKind.u64.wrap ((shl .u64 1 (IntKind.u64.wrap (t369))) - 1)) % 4294967296)) (Go.bits .and .u32 a2 ((IntKind.u64.wrap ((shl .u64 1 (IntKind.u64.wrap (t369))) - 1)) % 4294967296)) a3).bind fun bt377 => (if t365 = t367 then ((outpostlaw03_num.f t366).bind fun t379 => (if t379 = t368 then (if bt375.1 = bt377.1 then ((outpostlaw03_num.f bt375.2).bind fun t380 => (if t380 = bt377.2 then ((outpostlaw03_knows.f).bind fun t381 => (some t381)) else (some false))) else (some false)) else (some false))) else (some false)))) else (none)) = some r := H
  have A7 := Aside0.mk A70
  clear A70
  obtain ⟨ji8, hji8⟩ : ∃ j_ : Int, (IntKind.u64.wrap (t369)) = j_ := ⟨_, rfl⟩
  replace H : (if 0 ≤ (ji8) then ((crc_Join.f k t369 t370 t371 t372 t373 (Go.bits .and .u32 a1 ((IntKind.u64.wrap ((shl .u64 1 (ji8)) - 1)) % 4294967296)) (Go.bits .and .u32 a2 ((IntKind.u64.wrap ((shl .u64 1 (ji8)) - 1)) % 4294967296)) a3).bind fun bt375 => ((outpostref03_Join.f k t369 t370 t371 t372 t373 (Go.bits .and .u32 a1 ((IntKind.u64.wrap ((shl .u64 1 (ji8)) - 1)) % 4294967296)) (Go.bits .and .u32 a2 ((IntKind.u64.wrap ((shl .u64 1 (ji8)) - 1)) % 4294967296)) a3).bind fun bt377 => (if t365 = t367 then ((outpostlaw03_num.f t366).bind fun t379 => (if t379 = t368 then (if bt375.1 = bt377.1 then ((outpostlaw03_num.f bt375.2).bind fun t380 => (if t380 = bt377.2 then ((outpostlaw03_knows.f).bind fun t381 => (some t381)) else (some false))) else (some false)) else (some false))) else (some false)))) else (none)) = some r := by first | (rw [hji8] at H; exact H) | (simp only [hji8] at H ⊢; exact H)
  (try rw [hji8] at A5)
  (try rw [hji8] at A6)
  (try rw [hji8] at A7)
  by_cases c9 : 0 ≤ (ji8)
  · rw [if_pos c9] at H
    have c9b0 := eq_true c9
    have c9b1 : decide (0 ≤ (ji8)) = true := decide_eq_true c9
    clear c9
    obtain ⟨ji10, hji10⟩ : ∃ j_ : Int, (shl .u64 1 (ji8)) = j_ := ⟨_, rfl⟩
    replace H : ((crc_Join.f k t369 t370 t371 t372 t373 (Go.bits .and .u32 a1 ((IntKind.u64.wrap ((ji10) - 1)) % 4294967296)) (Go.bits .and .u32 a2 ((IntKind.u64.wrap ((ji10) - 1)) % 4294967296)) a3).bind fun bt375 => ((outpostref03_Join.f k t369 t370 t371 t372 t373 (Go.bits .and .u32 a1 ((IntKind.u64.wrap ((ji10) - 1)) % 4294967296)) (Go.bits .and .u32 a2 ((IntKind.u64.wrap ((ji10) - 1)) % 4294967296)) a3).bind fun bt377 => (if t365 = t367 then ((outpostlaw03_num.f t366).bind fun t379 => (if t379 = t368 then (if bt375.1 = bt377.1 then ((outpostlaw03_num.f bt375.2).bind fun t380 => (if t380 = bt377.2 then ((outpostlaw03_knows.f).bind fun t381 => (some t381)) else (some false))) else (some false)) else (some false))) else (some false)))) = some r := by first | (rw [hji10] at H; exact H) | (simp only [hji10] at H ⊢; exact H)
    (try rw [hji10] at A5)
    (try rw [hji10] at A6)
    (try rw [hji10] at A7)
    have hji10_ : (IntKind.u64.wrap (1 * 2 ^ min (ji8).toNat 64)) = ji10 := hji10
    have hji10z : (ji8) ≤ 64 → (IntKind.u64.wrap (1 * 2 ^ (ji8).toNat)) = ji10 := shl_small hji10
    have hji10u : (IntKind.u64.wrap (2 ^ min (ji8).toNat 64)) = ji10 := by have h_ := hji10_; rw [Int.one_mul] at h_; exact h_
    have hji10v : (ji8) ≤ 64 → (IntKind.u64.wrap (2 ^ (ji8).toNat)) = ji10 := fun hle_ => by have h_ := hji10z hle_; rw [Int.one_mul] at h_; exact h_
    replace H := Option.bind_eq_some_iff.mp H
    obtain ⟨⟨t375, t376⟩, A110, H⟩ := H
    replace H : ((outpostref03_Join.f k t369 t370 t371 t372 t373 (Go.bits .and .u32 a1 ((IntKind.u64.wrap ((ji10) - 1)) % 4294967296)) (Go.bits .and .u32 a2 ((IntKind.u64.wrap ((ji10) - 1)) % 4294967296)) a3).bind fun bt377 => (if t365 = t367 then ((outpostlaw03_num.f t366).bind fun t379 => (if t379 = t368 then (if t375 = bt377.1 then ((outpostlaw03_num.f t376).bind fun t380 => (if t380 = bt377.2 then ((outpostlaw03_knows.f).bind fun t381 => (some t381)) else (some false))) else (some false)) else (some false))) else (some false))) = some r := H
    have A11 := Aside0.mk A110
    clear A110
    replace H := Option.bind_eq_some_iff.mp H
    obtain ⟨⟨t377, t378⟩, A120, H⟩ := H
    replace H : (if t365 = t367 then ((outpostlaw03_num.f t366).bind fun t379 => (if t379 = t368 then (if t375 = t377 then ((outpostlaw03_num.f t376).bind fun t380 => (if t380 = t378 then ((outpostlaw03_knows.f).bind fun t381 => (some t381)) else (some false))) else (some false)) else (some false))) else (some false)) = some r := H
    have A12 := Aside0.mk A120
    clear A120
    by_cases c13 : t365 = t367
    · rw [if_pos c13] at H
      have c13b0 : (t365 == t367) = true := beq_iff_eq.mpr c13
      have c13b1 : (t365 != t367) = false := bne_eq_false_iff_eq.mpr c13
      clear c13
      replace H := Option.bind_eq_some_iff.mp H
      obtain ⟨t379, A140, H⟩ := H
      replace H : (if t379 = t368 then (if t375 = t377 then ((outpostlaw03_num.f t376).bind fun t380 => (if t380 = t378 then ((outpostlaw03_knows.f).bind fun t381 => (some t381)) else (some false))) else (some false)) else (some false)) = some r := H
      have A14 := Aside0.mk A140
      clear A140
      by_cases c15 : t379 = t368
      · rw [if_pos c15] at H
        have c15b0 : (t379 == t368) = true := beq_iff_eq.mpr c15
        have c15b1 : (t379 != t368) = false := bne_eq_false_iff_eq.mpr c15
        clear c15
        by_cases c16 : t375 = t377
        · rw [if_pos c16] at H
          have c16b0 : (t375 == t377) = true := beq_iff_eq.mpr c16
          have c16b1 : (t375 != t377) = false := bne_eq_false_iff_eq.mpr c16
          clear c16
          replace H := Option.bind_eq_some_iff.mp H
          obtain ⟨t380, A170, H⟩ := H
          replace H : (if t380 = t378 then ((outpostlaw03_knows.f).bind fun t381 => (some t381)) else (some false)) = some r := H
          have A17 := Aside0.mk A170
          clear A170
          by_cases c18 : t380 = t378
          · rw [if_pos c18] at H
            have c18b0 : (t380 == t378) = true := beq_iff_eq.mpr c18
            have c18b1 : (t380 != t378) = false := bne_eq_false_iff_eq.mpr c18
            clear c18
            replace H := Option.bind_eq_some_iff.mp H
            obtain ⟨t381, A190, H⟩ := H
            replace H : (some t381) = some r := H
            have A19 := Aside0.mk A190
            clear A190
            obtain rfl := Option.some.inj H
            go_enter Try.func11, Try.ntmps11
            go_wp2_with (first | ((with_reducible refine gate_dst (N := 4) rfl ?_); refine box_event ?hg (N := 4) ?hd (cs := #[.int .i64 a0_0, .int .u32 a0_1, .int .u32 a0_2, .int .u32 a0_3, .bool a0_4]) (t := 24) ?hr ?_; (case hd => rfl); (case hg => rfl); (case hr => first | (go_simp; done) | (go_simp; rfl)); intro gb364 hg w20 hbox hb; have n0_ := Aside0.mk (below_step (by repeat (first | (with_reducible first | exact HB.out | apply below_alloc | apply pw_below_drewN | apply below_drew1) | exact HB.out)) hb); have n1_ := Aside0.mk (hbox); have n2_ := Aside0.mk ((by rw [hg]; exact (below_size (by repeat (first | (with_reducible first | exact HB.out | apply below_alloc | apply pw_below_drewN | apply below_drew1) | exact HB.out))) : w.heap.size ≤ gb364)); have n3_ := Aside0.mk ((by rw [hg]; exact (below_size (by repeat (first | (with_reducible first | exact HB.out | apply below_alloc | apply pw_below_drewN | apply below_drew1) | exact HB.out))) : w.heap.size ≤ gb364)); clear HB; have HB := n0_; have BK364 := n1_; have GW364 := n2_; have GE364 := n3_; clear n0_ n1_ n2_ n3_; clear hb hbox hg; have hcz21_0 : w20.cell? ⟨gb364, 0, none⟩ = some (.int .i64 a0_0) := (blk_cell BK364.out 0).trans rfl; have hcz21_1 : w20.cell? ⟨gb364, 1, none⟩ = some (.int .u32 a0_1) := (blk_cell BK364.out 1).trans rfl; have hcz21_2 : w20.cell? ⟨gb364, 2, none⟩ = some (.int .u32 a0_2) := (blk_cell BK364.out 2).trans rfl; have hcz21_3 : w20.cell? ⟨gb364, 3, none⟩ = some (.int .u32 a0_3) := (blk_cell BK364.out 3).trans rfl; have hcz21_4 : w20.cell? ⟨gb364, 4, none⟩ = some (.bool a0_4) := (blk_cell BK364.out 4).trans rfl; have hfz21_0 := blk_frozen BK364.out 0; have hfz21_1 := blk_frozen BK364.out 1; have hfz21_2 := blk_frozen BK364.out 2; have hfz21_3 := blk_frozen BK364.out 3; have hfz21_4 := blk_frozen BK364.out 4) | ((with_reducible refine gate_callee (f := 37) rfl ?_); refine goesL_ (some 24) rfl rfl Try.func37 (by kernel_rfl) rfl #[.agg #[.int .i64 a0_0, .int .u32 a0_1, .int .u32 a0_2, .int .u32 a0_3, .bool a0_4], .int .u32 a1, .int .u32 a2, .int .i64 a3] rfl (by (try simp only [List.map_toArray, List.map_cons, List.map_nil]); first | done | rfl | (simp only [List.length_drop, List.length_take]; rfl) | (simp [Act.eval, IntKind.wrap_u8, IntKind.wrap_u32]; done)) ?_; (with_reducible refine (crc_Join.calls k a0_0 a0_1 a0_2 a0_3 a0_4 a1 a2 a3 t365 t366 _ A5.out).mono ?_); rintro e w22 ⟨rfl, hb⟩; refine ⟨_, rfl, ?_⟩; have n0_ := Aside0.mk (blk_below (g := gb364) (o := .cells #[.int .i64 a0_0, .int .u32 a0_1, .int .u32 a0_2, .int .u32 a0_3, .bool a0_4] 24 (0, 0)) (by (with_reducible repeat (first | refine blk_drewN ?_ _ | refine blk_drew ?_ | refine blk_alloc ?_ _)); exact BK364.out) hb); have n1_ := Aside0.mk (below_step (by repeat (first | (with_reducible first | exact HB.out | apply below_alloc | apply pw_below_drewN | apply below_drew1 | refine below_set ?_ GE364.out) | exact HB.out)) hb); clear BK364; clear HB; have BK364 := n0_; have HB := n1_; clear n0_ n1_; (try clear hb); (try clear hb2); (try clear hk); (try clear hi); have hcz23_0 : w22.cell? ⟨gb364, 0, none⟩ = some (.int .i64 a0_0) := (blk_cell BK364.out 0).trans rfl; have hcz23_1 : w22.cell? ⟨gb364, 1, none⟩ = some (.int .u32 a0_1) := (blk_cell BK364.out 1).trans rfl; have hcz23_2 : w22.cell? ⟨gb364, 2, none⟩ = some (.int .u32 a0_2) := (blk_cell BK364.out 2).trans rfl; have hcz23_3 : w22.cell? ⟨gb364, 3, none⟩ = some (.int .u32 a0_3) := (blk_cell BK364.out 3).trans rfl; have hcz23_4 : w22.cell? ⟨gb364, 4, none⟩ = some (.bool a0_4) := (blk_cell BK364.out 4).trans rfl; have hfz23_0 := blk_frozen BK364.out 0; have hfz23_1 := blk_frozen BK364.out 1; have hfz23_2 := blk_frozen BK364.out 2; have hfz23_3 := blk_frozen BK364.out 3; have hfz23_4 := blk_frozen BK364.out 4) | ((with_reducible refine gate_callee (f := 38) rfl ?_); refine goesL_ (some 32) rfl rfl Try.func38 (by kernel_rfl) rfl #[.agg #[.int .i64 a0_0, .int .u32 a0_1, .int .u32 a0_2, .int .u32 a0_3, .bool a0_4], .int .u32 a1, .int .u32 a2, .int .i64 a3] rfl (by (try simp only [List.map_toArray, List.map_cons, List.map_nil]); first | done | rfl | (simp only [List.length_drop, List.length_take]; rfl) | (simp [Act.eval, IntKind.wrap_u8, IntKind.wrap_u32]; done)) ?_; (with_reducible refine (outpostref03_Join.calls k a0_0 a0_1 a0_2 a0_3 a0_4 a1 a2 a3 t367 t368 _ A6.out).mono ?_); rintro e w24 ⟨rfl, hb⟩; refine ⟨_, rfl, ?_⟩; have n0_ := Aside0.mk (blk_below (g := gb364) (o := .cells #[.int .i64 a0_0, .int .u32 a0_1, .int .u32 a0_2, .int .u32 a0_3, .bool a0_4] 24 (0, 0)) (by (with_reducible repeat (first | refine blk_drewN ?_ _ | refine blk_drew ?_ | refine blk_alloc ?_ _)); exact BK364.out) hb); have n1_ := Aside0.mk (below_step (by repeat (first | (with_reducible first | exact HB.out | apply below_alloc | apply pw_below_drewN | apply below_drew1 | refine below_set ?_ GE364.out) | exact HB.out)) hb); clear BK364; clear HB; have BK364 := n0_; have HB := n1_; clear n0_ n1_; (try clear hb); (try clear hb2); (try clear hk); (try clear hi); have hcz25_0 : w24.cell? ⟨gb364, 0, none⟩ = some (.int .i64 a0_0) := (blk_cell BK364.out 0).trans rfl; have hcz25_1 : w24.cell? ⟨gb364, 1, none⟩ = some (.int .u32 a0_1) := (blk_cell BK364.out 1).trans rfl; have hcz25_2 : w24.cell? ⟨gb364, 2, none⟩ = some (.int .u32 a0_2) := (blk_cell BK364.out 2).trans rfl; have hcz25_3 : w24.cell? ⟨gb364, 3, none⟩ = some (.int .u32 a0_3) := (blk_cell BK364.out 3).trans rfl; have hcz25_4 : w24.cell? ⟨gb364, 4, none⟩ = some (.bool a0_4) := (blk_cell BK364.out 4).trans rfl; have hfz25_0 := blk_frozen BK364.out 0; have hfz25_1 := blk_frozen BK364.out 1; have hfz25_2 := blk_frozen BK364.out 2; have hfz25_3 := blk_frozen BK364.out 3; have hfz25_4 := blk_frozen BK364.out 4) | ((with_reducible refine gate_callee (f := 19) rfl ?_); refine goesL_ (some 36) rfl rfl Try.func19 (by kernel_rfl) rfl #[.agg #[.int .i64 a0_0, .int .u32 a0_1, .int .u32 a0_2, .int .u32 a0_3, .bool a0_4]] rfl (by (try simp only [List.map_toArray, List.map_cons, List.map_nil]); first | done | rfl | (simp only [List.length_drop, List.length_take]; rfl) | (simp [Act.eval, IntKind.wrap_u8, IntKind.wrap_u32]; done)) ?_; (with_reducible refine (outpostlaw03_Good.calls a0_0 a0_1 a0_2 a0_3 a0_4 t369 t370 t371 t372 t373 _ A7.out).mono ?_); rintro e w26 ⟨rfl, hb⟩; refine ⟨_, rfl, ?_⟩; have n0_ := Aside0.mk (blk_below (g := gb364) (o := .cells #[.int .i64 a0_0, .int .u32 a0_1, .int .u32 a0_2, .int .u32 a0_3, .bool a0_4] 24 (0, 0)) (by (with_reducible repeat (first | refine blk_drewN ?_ _ | refine blk_drew ?_ | refine blk_alloc ?_ _)); exact BK364.out) hb); have n1_ := Aside0.mk (below_step (by repeat (first | (with_reducible first | exact HB.out | apply below_alloc | apply pw_below_drewN | apply below_drew1 | refine below_set ?_ GE364.out) | exact HB.out)) hb); clear BK364; clear HB; have BK364 := n0_; have HB := n1_; clear n0_ n1_; (try clear hb); (try clear hb2); (try clear hk); (try clear hi)) | ((with_reducible refine gate_dst (N := 13) rfl ?_); refine box_event ?hg (N := 13) ?hd (cs := #[.int .i64 0, .int .u32 0, .int .u32 0, .int .u32 0, .bool false]) (t := 24) ?hr ?_; (case hd => rfl); (case hg => rfl); (case hr => first | (go_simp; done) | (go_simp; rfl)); intro gb374 hg w27 hbox hb; have n0_ := Aside0.mk (blk_below (g := gb364) (o := .cells #[.int .i64 a0_0, .int .u32 a0_1, .int .u32 a0_2, .int .u32 a0_3, .bool a0_4] 24 (0, 0)) (by (with_reducible repeat (first | refine blk_drewN ?_ _ | refine blk_drew ?_ | refine blk_alloc ?_ _)); exact BK364.out) hb); have n1_ := Aside0.mk (below_step (by repeat (first | (with_reducible first | exact HB.out | apply below_alloc | apply pw_below_drewN | apply below_drew1 | refine below_set ?_ GE364.out) | exact HB.out)) hb); have n2_ := Aside0.mk (hbox); have n3_ := Aside0.mk ((by rw [hg]; exact (below_size (by repeat (first | (with_reducible first | exact HB.out | apply below_alloc | apply pw_below_drewN | apply below_drew1 | refine below_set ?_ GE364.out) | exact HB.out))) : w.heap.size ≤ gb374)); have n4_ := Aside0.mk ((by rw [hg]; exact (below_size (by repeat (first | (with_reducible first | exact HB.out | apply below_alloc | apply pw_below_drewN | apply below_drew1 | refine below_set ?_ GE364.out) | exact HB.out))) : w.heap.size ≤ gb374)); have n5_ := Aside0.mk ((by rw [hg]; exact Nat.ne_of_lt (blk_lt (g := gb364) (o := .cells #[.int .i64 a0_0, .int .u32 a0_1, .int .u32 a0_2, .int .u32 a0_3, .bool a0_4] 24 (0, 0)) (by (with_reducible repeat (first | refine blk_drewN ?_ _ | refine blk_drew ?_ | refine blk_alloc ?_ _)); exact BK364.out)) : gb364 ≠ gb374)); have n6_ := Aside0.mk ((by rw [hg]; exact Nat.ne_of_gt (blk_lt (g := gb364) (o := .cells #[.int .i64 a0_0, .int .u32 a0_1, .int .u32 a0_2, .int .u32 a0_3, .bool a0_4] 24 (0, 0)) (by (with_reducible repeat (first | refine blk_drewN ?_ _ | refine blk_drew ?_ | refine blk_alloc ?_ _)); exact BK364.out)) : gb374 ≠ gb364)); clear BK364; clear HB; have BK364 := n0_; have HB := n1_; have BK374 := n2_; have GW374 := n3_; have GE374 := n4_; have NB364_374 := n5_; have NB374_364 := n6_; clear n0_ n1_ n2_ n3_ n4_ n5_ n6_; clear hb hbox hg; have hnb28 := NB374_364.out; have hnc28 := NB364_374.out; have hcz29_0 : w27.cell? ⟨gb374, 0, none⟩ = some (.int .i64 0) := (blk_cell BK374.out 0).trans rfl; have hcz29_1 : w27.cell? ⟨gb374, 1, none⟩ = some (.int .u32 0) := (blk_cell BK374.out 1).trans rfl; have hcz29_2 : w27.cell? ⟨gb374, 2, none⟩ = some (.int .u32 0) := (blk_cell BK374.out 2).trans rfl; have hcz29_3 : w27.cell? ⟨gb374, 3, none⟩ = some (.int .u32 0) := (blk_cell BK374.out 3).trans rfl; have hcz29_4 : w27.cell? ⟨gb374, 4, none⟩ = some (.bool false) := (blk_cell BK374.out 4).trans rfl; have hfz29_0 := blk_frozen BK374.out 0; have hfz29_1 := blk_frozen BK374.out 1; have hfz29_2 := blk_frozen BK374.out 2; have hfz29_3 := blk_frozen BK374.out 3; have hfz29_4 := blk_frozen BK374.out 4) | ((with_reducible refine gate_callee (f := 37) rfl ?_); refine goesL_ (some 52) rfl rfl Try.func37 (by kernel_rfl) rfl #[.agg #[.int .i64 t369, .int .u32 t370, .int .u32 t371, .int .u32 t372, .bool t373], .int .u32 (Go.bits .and .u32 a1 ((IntKind.u64.wrap ((ji10) - 1)) % 4294967296)), .int .u32 (Go.bits .and .u32 a2 ((IntKind.u64.wrap ((ji10) - 1)) % 4294967296)), .int .i64 a3] rfl (by (try simp only [List.map_toArray, List.map_cons, List.map_nil]); first | done | (simp only [hji10]; rfl) | rfl | (simp only [List.length_drop, List.length_take]; rfl) | (simp [Act.eval, IntKind.wrap_u8, IntKind.wrap_u32]; done)) ?_; (with_reducible refine (crc_Join.calls k t369 t370 t371 t372 t373 (Go.bits .and .u32 a1 ((IntKind.u64.wrap ((ji10) - 1)) % 4294967296)) (Go.bits .and .u32 a2 ((IntKind.u64.wrap ((ji10) - 1)) % 4294967296)) a3 t375 t376 _ A11.out).mono ?_); rintro e w30 ⟨rfl, hb⟩; refine ⟨_, rfl, ?_⟩; have n0_ := Aside0.mk (blk_below (g := gb364) (o := .cells #[.int .i64 a0_0, .int .u32 a0_1, .int .u32 a0_2, .int .u32 a0_3, .bool a0_4] 24 (0, 0)) (by (with_reducible repeat (first | refine blk_drewN ?_ _ | refine blk_drew ?_ | refine blk_alloc ?_ _)); refine blk_far ?_ NB364_374.out _; (with_reducible repeat (first | refine blk_drewN ?_ _ | refine blk_drew ?_ | refine blk_alloc ?_ _)); refine blk_far ?_ NB364_374.out _; (with_reducible repeat (first | refine blk_drewN ?_ _ | refine blk_drew ?_ | refine blk_alloc ?_ _)); refine blk_far ?_ NB364_374.out _; (with_reducible repeat (first | refine blk_drewN ?_ _ | refine blk_drew ?_ | refine blk_alloc ?_ _)); refine blk_far ?_ NB364_374.out _; (with_reducible repeat (first | refine blk_drewN ?_ _ | refine blk_drew ?_ | refine blk_alloc ?_ _)); refine blk_far ?_ NB364_374.out _; (with_reducible repeat (first | refine blk_drewN ?_ _ | refine blk_drew ?_ | refine blk_alloc ?_ _)); exact BK364.out) hb); have n1_ := Aside0.mk (blk_below (g := gb374) (o := .cells #[.int .i64 t369, .int .u32 t370, .int .u32 t371, .int .u32 t372, .bool t373] 24 (0, 0)) (by (with_reducible repeat (first | refine blk_drewN ?_ _ | refine blk_drew ?_ | refine blk_alloc ?_ _)); refine blk_put (cs := #[.int .i64 t369, .int .u32 t370, .int .u32 t371, .int .u32 t372, .bool false]) ?_ 4 _ rfl; (with_reducible repeat (first | refine blk_drewN ?_ _ | refine blk_drew ?_ | refine blk_alloc ?_ _)); refine blk_put (cs := #[.int .i64 t369, .int .u32 t370, .int .u32 t371, .int .u32 0, .bool false]) ?_ 3 _ rfl; (with_reducible repeat (first | refine blk_drewN ?_ _ | refine blk_drew ?_ | refine blk_alloc ?_ _)); refine blk_put (cs := #[.int .i64 t369, .int .u32 t370, .int .u32 0, .int .u32 0, .bool false]) ?_ 2 _ rfl; (with_reducible repeat (first | refine blk_drewN ?_ _ | refine blk_drew ?_ | refine blk_alloc ?_ _)); refine blk_put (cs := #[.int .i64 t369, .int .u32 0, .int .u32 0, .int .u32 0, .bool false]) ?_ 1 _ rfl; (with_reducible repeat (first | refine blk_drewN ?_ _ | refine blk_drew ?_ | refine blk_alloc ?_ _)); refine blk_put (cs := #[.int .i64 0, .int .u32 0, .int .u32 0, .int .u32 0, .bool false]) ?_ 0 _ rfl; (with_reducible repeat (first | refine blk_drewN ?_ _ | refine blk_drew ?_ | refine blk_alloc ?_ _)); exact BK374.out) hb); have n2_ := Aside0.mk (below_step (by repeat (first | (with_reducible first | exact HB.out | apply below_alloc | apply pw_below_drewN | apply below_drew1 | refine below_set ?_ GE364.out | refine below_set ?_ GE374.out) | exact HB.out)) hb); clear BK364; clear BK374; clear HB; have BK364 := n0_; have BK374 := n1_; have HB := n2_; clear n0_ n1_ n2_; (try clear hb); (try clear hb2); (try clear hk); (try clear hi); have hcz31_0 : w30.cell? ⟨gb374, 0, none⟩ = some (.int .i64 t369) := (blk_cell BK374.out 0).trans rfl; have hcz31_1 : w30.cell? ⟨gb374, 1, none⟩ = some (.int .u32 t370) := (blk_cell BK374.out 1).trans rfl; have hcz31_2 : w30.cell? ⟨gb374, 2, none⟩ = some (.int .u32 t371) := (blk_cell BK374.out 2).trans rfl; have hcz31_3 : w30.cell? ⟨gb374, 3, none⟩ = some (.int .u32 t372) := (blk_cell BK374.out 3).trans rfl; have hcz31_4 : w30.cell? ⟨gb374, 4, none⟩ = some (.bool t373) := (blk_cell BK374.out 4).trans rfl; have hfz31_0 := blk_frozen BK374.out 0; have hfz31_1 := blk_frozen BK374.out 1; have hfz31_2 := blk_frozen BK374.out 2; have hfz31_3 := blk_frozen BK374.out 3; have hfz31_4 := blk_frozen BK374.out 4) | ((with_reducible refine gate_callee (f := 38) rfl ?_); refine goesL_ (some 64) rfl rfl Try.func38 (by kernel_rfl) rfl #[.agg #[.int .i64 t369, .int .u32 t370, .int .u32 t371, .int .u32 t372, .bool t373], .int .u32 (Go.bits .and .u32 a1 ((IntKind.u64.wrap ((ji10) - 1)) % 4294967296)), .int .u32 (Go.bits .and .u32 a2 ((IntKind.u64.wrap ((ji10) - 1)) % 4294967296)), .int .i64 a3] rfl (by (try simp only [List.map_toArray, List.map_cons, List.map_nil]); first | done | (simp only [hji10]; rfl) | rfl | (simp only [List.length_drop, List.length_take]; rfl) | (simp [Act.eval, IntKind.wrap_u8, IntKind.wrap_u32]; done)) ?_; (with_reducible refine (outpostref03_Join.calls k t369 t370 t371 t372 t373 (Go.bits .and .u32 a1 ((IntKind.u64.wrap ((ji10) - 1)) % 4294967296)) (Go.bits .and .u32 a2 ((IntKind.u64.wrap ((ji10) - 1)) % 4294967296)) a3 t377 t378 _ A12.out).mono ?_); rintro e w32 ⟨rfl, hb⟩; refine ⟨_, rfl, ?_⟩; have n0_ := Aside0.mk (blk_below (g := gb364) (o := .cells #[.int .i64 a0_0, .int .u32 a0_1, .int .u32 a0_2, .int .u32 a0_3, .bool a0_4] 24 (0, 0)) (by (with_reducible repeat (first | refine blk_drewN ?_ _ | refine blk_drew ?_ | refine blk_alloc ?_ _)); exact BK364.out) hb); have n1_ := Aside0.mk (blk_below (g := gb374) (o := .cells #[.int .i64 t369, .int .u32 t370, .int .u32 t371, .int .u32 t372, .bool t373] 24 (0, 0)) (by (with_reducible repeat (first | refine blk_drewN ?_ _ | refine blk_drew ?_ | refine blk_alloc ?_ _)); exact BK374.out) hb); have n2_ := Aside0.mk (below_step (by repeat (first | (with_reducible first | exact HB.out | apply below_alloc | apply pw_below_drewN | apply below_drew1 | refine below_set ?_ GE364.out | refine below_set ?_ GE374.out) | exact HB.out)) hb); clear BK364; clear BK374; clear HB; have BK364 := n0_; have BK374 := n1_; have HB := n2_; clear n0_ n1_ n2_; (try clear hb); (try clear hb2); (try clear hk); (try clear hi)) | (go_at_call 15; (with_reducible refine (outpostlaw03_num.calls t366 t379 _ A14.out).mono ?_); rintro e w' ⟨rfl, ⟨nd, rfl⟩⟩) | (go_at_call 15; (with_reducible refine (outpostlaw03_num.calls t376 t380 _ A17.out).mono ?_); rintro e w' ⟨rfl, ⟨nd, rfl⟩⟩) | (go_at_call 18; (with_reducible refine (outpostlaw03_knows.calls  t381 _ A19.out).mono ?_); rintro e w33 ⟨rfl, hb⟩; have n0_ := Aside0.mk (blk_below (g := gb364) (o := .cells #[.int .i64 a0_0, .int .u32 a0_1, .int .u32 a0_2, .int .u32 a0_3, .bool a0_4] 24 (0, 0)) (by (with_reducible repeat (first | refine blk_drewN ?_ _ | refine blk_drew ?_ | refine blk_alloc ?_ _)); exact BK364.out) hb); have n1_ := Aside0.mk (blk_below (g := gb374) (o := .cells #[.int .i64 t369, .int .u32 t370, .int .u32 t371, .int .u32 t372, .bool t373] 24 (0, 0)) (by (with_reducible repeat (first | refine blk_drewN ?_ _ | refine blk_drew ?_ | refine blk_alloc ?_ _)); exact BK374.out) hb); have n2_ := Aside0.mk (below_step (by repeat (first | (with_reducible first | exact HB.out | apply below_alloc | apply pw_below_drewN | apply below_drew1 | refine below_set ?_ GE364.out | refine below_set ?_ GE374.out) | exact HB.out)) hb); clear BK364; clear BK374; clear HB; have BK364 := n0_; have BK374 := n1_; have HB := n2_; clear n0_ n1_ n2_; (try clear hb); (try clear hb2); (try clear hk); (try clear hi)))
            go_ret
            exact ⟨by first | rfl | (simp [errW_none, errW_some] <;> rfl) | (simp only [← hji8, ← hji10]; first | rfl | (simp [errW_none, errW_some] <;> rfl)) | (simp [*, errW_none, errW_some] <;> rfl), by repeat (first | (with_reducible first | exact HB.out | apply below_alloc | apply pw_below_drewN | apply below_drew1 | refine below_set ?_ GE364.out | refine below_set ?_ GE374.out) | exact HB.out)⟩
          · rw [if_neg c18] at H
            have c18b0 : (t380 == t378) = false := beq_eq_false_iff_ne.mpr c18
            have c18b1 : (t380 != t378) = true := bne_iff_ne.mpr c18
            obtain rfl := Option.some.inj H
            go_enter Try.func11, Try.ntmps11
            go_wp2_with (first | ((with_reducible refine gate_dst (N := 4) rfl ?_); refine box_event ?hg (N := 4) ?hd (cs := #[.int .i64 a0_0, .int .u32 a0_1, .int .u32 a0_2, .int .u32 a0_3, .bool a0_4]) (t := 24) ?hr ?_; (case hd => rfl); (case hg => rfl); (case hr => first | (go_simp; done) | (go_simp; rfl)); intro gb364 hg w34 hbox hb; have n0_ := Aside0.mk (below_step (by repeat (first | (with_reducible first | exact HB.out | apply below_alloc | apply pw_below_drewN | apply below_drew1) | exact HB.out)) hb); have n1_ := Aside0.mk (hbox); have n2_ := Aside0.mk ((by rw [hg]; exact (below_size (by repeat (first | (with_reducible first | exact HB.out | apply below_alloc | apply pw_below_drewN | apply below_drew1) | exact HB.out))) : w.heap.size ≤ gb364)); have n3_ := Aside0.mk ((by rw [hg]; exact (below_size (by repeat (first | (with_reducible first | exact HB.out | apply below_alloc | apply pw_below_drewN | apply below_drew1) | exact HB.out))) : w.heap.size ≤ gb364)); clear HB; have HB := n0_; have BK364 := n1_; have GW364 := n2_; have GE364 := n3_; clear n0_ n1_ n2_ n3_; clear hb hbox hg; have hcz35_0 : w34.cell? ⟨gb364, 0, none⟩ = some (.int .i64 a0_0) := (blk_cell BK364.out 0).trans rfl; have hcz35_1 : w34.cell? ⟨gb364, 1, none⟩ = some (.int .u32 a0_1) := (blk_cell BK364.out 1).trans rfl; have hcz35_2 : w34.cell? ⟨gb364, 2, none⟩ = some (.int .u32 a0_2) := (blk_cell BK364.out 2).trans rfl; have hcz35_3 : w34.cell? ⟨gb364, 3, none⟩ = some (.int .u32 a0_3) := (blk_cell BK364.out 3).trans rfl; have hcz35_4 : w34.cell? ⟨gb364, 4, none⟩ = some (.bool a0_4) := (blk_cell BK364.out 4).trans rfl; have hfz35_0 := blk_frozen BK364.out 0; have hfz35_1 := blk_frozen BK364.out 1; have hfz35_2 := blk_frozen BK364.out 2; have hfz35_3 := blk_frozen BK364.out 3; have hfz35_4 := blk_frozen BK364.out 4) | ((with_reducible refine gate_callee (f := 37) rfl ?_); refine goesL_ (some 24) rfl rfl Try.func37 (by kernel_rfl) rfl #[.agg #[.int .i64 a0_0, .int .u32 a0_1, .int .u32 a0_2, .int .u32 a0_3, .bool a0_4], .int .u32 a1, .int .u32 a2, .int .i64 a3] rfl (by (try simp only [List.map_toArray, List.map_cons, List.map_nil]); first | done | rfl | (simp only [List.length_drop, List.length_take]; rfl) | (simp [Act.eval, IntKind.wrap_u8, IntKind.wrap_u32]; done)) ?_; (with_reducible refine (crc_Join.calls k a0_0 a0_1 a0_2 a0_3 a0_4 a1 a2 a3 t365 t366 _ A5.out).mono ?_); rintro e w36 ⟨rfl, hb⟩; refine ⟨_, rfl, ?_⟩; have n0_ := Aside0.mk (blk_below (g := gb364) (o := .cells #[.int .i64 a0_0, .int .u32 a0_1, .int .u32 a0_2, .int .u32 a0_3, .bool a0_4] 24 (0, 0)) (by (with_reducible repeat (first | refine blk_drewN ?_ _ | refine blk_drew ?_ | refine blk_alloc ?_ _)); exact BK364.out) hb); have n1_ := Aside0.mk (below_step (by repeat (first | (with_reducible first | exact HB.out | apply below_alloc | apply pw_below_drewN | apply below_drew1 | refine below_set ?_ GE364.out) | exact HB.out)) hb); clear BK364; clear HB; have BK364 := n0_; have HB := n1_; clear n0_ n1_; (try clear hb); (try clear hb2); (try clear hk); (try clear hi); have hcz37_0 : w36.cell? ⟨gb364, 0, none⟩ = some (.int .i64 a0_0) := (blk_cell BK364.out 0).trans rfl; have hcz37_1 : w36.cell? ⟨gb364, 1, none⟩ = some (.int .u32 a0_1) := (blk_cell BK364.out 1).trans rfl; have hcz37_2 : w36.cell? ⟨gb364, 2, none⟩ = some (.int .u32 a0_2) := (blk_cell BK364.out 2).trans rfl; have hcz37_3 : w36.cell? ⟨gb364, 3, none⟩ = some (.int .u32 a0_3) := (blk_cell BK364.out 3).trans rfl; have hcz37_4 : w36.cell? ⟨gb364, 4, none⟩ = some (.bool a0_4) := (blk_cell BK364.out 4).trans rfl; have hfz37_0 := blk_frozen BK364.out 0; have hfz37_1 := blk_frozen BK364.out 1; have hfz37_2 := blk_frozen BK364.out 2; have hfz37_3 := blk_frozen BK364.out 3; have hfz37_4 := blk_frozen BK364.out 4) | ((with_reducible refine gate_callee (f := 38) rfl ?_); refine goesL_ (some 32) rfl rfl Try.func38 (by kernel_rfl) rfl #[.agg #[.int .i64 a0_0, .int .u32 a0_1, .int .u32 a0_2, .int .u32 a0_3, .bool a0_4], .int .u32 a1, .int .u32 a2, .int .i64 a3] rfl (by (try simp only [List.map_toArray, List.map_cons, List.map_nil]); first | done | rfl | (simp only [List.length_drop, List.length_take]; rfl) | (simp [Act.eval, IntKind.wrap_u8, IntKind.wrap_u32]; done)) ?_; (with_reducible refine (outpostref03_Join.calls k a0_0 a0_1 a0_2 a0_3 a0_4 a1 a2 a3 t367 t368 _ A6.out).mono ?_); rintro e w38 ⟨rfl, hb⟩; refine ⟨_, rfl, ?_⟩; have n0_ := Aside0.mk (blk_below (g := gb364) (o := .cells #[.int .i64 a0_0, .int .u32 a0_1, .int .u32 a0_2, .int .u32 a0_3, .bool a0_4] 24 (0, 0)) (by (with_reducible repeat (first | refine blk_drewN ?_ _ | refine blk_drew ?_ | refine blk_alloc ?_ _)); exact BK364.out) hb); have n1_ := Aside0.mk (below_step (by repeat (first | (with_reducible first | exact HB.out | apply below_alloc | apply pw_below_drewN | apply below_drew1 | refine below_set ?_ GE364.out) | exact HB.out)) hb); clear BK364; clear HB; have BK364 := n0_; have HB := n1_; clear n0_ n1_; (try clear hb); (try clear hb2); (try clear hk); (try clear hi); have hcz39_0 : w38.cell? ⟨gb364, 0, none⟩ = some (.int .i64 a0_0) := (blk_cell BK364.out 0).trans rfl; have hcz39_1 : w38.cell? ⟨gb364, 1, none⟩ = some (.int .u32 a0_1) := (blk_cell BK364.out 1).trans rfl; have hcz39_2 : w38.cell? ⟨gb364, 2, none⟩ = some (.int .u32 a0_2) := (blk_cell BK364.out 2).trans rfl; have hcz39_3 : w38.cell? ⟨gb364, 3, none⟩ = some (.int .u32 a0_3) := (blk_cell BK364.out 3).trans rfl; have hcz39_4 : w38.cell? ⟨gb364, 4, none⟩ = some (.bool a0_4) := (blk_cell BK364.out 4).trans rfl; have hfz39_0 := blk_frozen BK364.out 0; have hfz39_1 := blk_frozen BK364.out 1; have hfz39_2 := blk_frozen BK364.out 2; have hfz39_3 := blk_frozen BK364.out 3; have hfz39_4 := blk_frozen BK364.out 4) | ((with_reducible refine gate_callee (f := 19) rfl ?_); refine goesL_ (some 36) rfl rfl Try.func19 (by kernel_rfl) rfl #[.agg #[.int .i64 a0_0, .int .u32 a0_1, .int .u32 a0_2, .int .u32 a0_3, .bool a0_4]] rfl (by (try simp only [List.map_toArray, List.map_cons, List.map_nil]); first | done | rfl | (simp only [List.length_drop, List.length_take]; rfl) | (simp [Act.eval, IntKind.wrap_u8, IntKind.wrap_u32]; done)) ?_; (with_reducible refine (outpostlaw03_Good.calls a0_0 a0_1 a0_2 a0_3 a0_4 t369 t370 t371 t372 t373 _ A7.out).mono ?_); rintro e w40 ⟨rfl, hb⟩; refine ⟨_, rfl, ?_⟩; have n0_ := Aside0.mk (blk_below (g := gb364) (o := .cells #[.int .i64 a0_0, .int .u32 a0_1, .int .u32 a0_2, .int .u32 a0_3, .bool a0_4] 24 (0, 0)) (by (with_reducible repeat (first | refine blk_drewN ?_ _ | refine blk_drew ?_ | refine blk_alloc ?_ _)); exact BK364.out) hb); have n1_ := Aside0.mk (below_step (by repeat (first | (with_reducible first | exact HB.out | apply below_alloc | apply pw_below_drewN | apply below_drew1 | refine below_set ?_ GE364.out) | exact HB.out)) hb); clear BK364; clear HB; have BK364 := n0_; have HB := n1_; clear n0_ n1_; (try clear hb); (try clear hb2); (try clear hk); (try clear hi)) | ((with_reducible refine gate_dst (N := 13) rfl ?_); refine box_event ?hg (N := 13) ?hd (cs := #[.int .i64 0, .int .u32 0, .int .u32 0, .int .u32 0, .bool false]) (t := 24) ?hr ?_; (case hd => rfl); (case hg => rfl); (case hr => first | (go_simp; done) | (go_simp; rfl)); intro gb374 hg w41 hbox hb; have n0_ := Aside0.mk (blk_below (g := gb364) (o := .cells #[.int .i64 a0_0, .int .u32 a0_1, .int .u32 a0_2, .int .u32 a0_3, .bool a0_4] 24 (0, 0)) (by (with_reducible repeat (first | refine blk_drewN ?_ _ | refine blk_drew ?_ | refine blk_alloc ?_ _)); exact BK364.out) hb); have n1_ := Aside0.mk (below_step (by repeat (first | (with_reducible first | exact HB.out | apply below_alloc | apply pw_below_drewN | apply below_drew1 | refine below_set ?_ GE364.out) | exact HB.out)) hb); have n2_ := Aside0.mk (hbox); have n3_ := Aside0.mk ((by rw [hg]; exact (below_size (by repeat (first | (with_reducible first | exact HB.out | apply below_alloc | apply pw_below_drewN | apply below_drew1 | refine below_set ?_ GE364.out) | exact HB.out))) : w.heap.size ≤ gb374)); have n4_ := Aside0.mk ((by rw [hg]; exact (below_size (by repeat (first | (with_reducible first | exact HB.out | apply below_alloc | apply pw_below_drewN | apply below_drew1 | refine below_set ?_ GE364.out) | exact HB.out))) : w.heap.size ≤ gb374)); have n5_ := Aside0.mk ((by rw [hg]; exact Nat.ne_of_lt (blk_lt (g := gb364) (o := .cells #[.int .i64 a0_0, .int .u32 a0_1, .int .u32 a0_2, .int .u32 a0_3, .bool a0_4] 24 (0, 0)) (by (with_reducible repeat (first | refine blk_drewN ?_ _ | refine blk_drew ?_ | refine blk_alloc ?_ _)); exact BK364.out)) : gb364 ≠ gb374)); have n6_ := Aside0.mk ((by rw [hg]; exact Nat.ne_of_gt (blk_lt (g := gb364) (o := .cells #[.int .i64 a0_0, .int .u32 a0_1, .int .u32 a0_2, .int .u32 a0_3, .bool a0_4] 24 (0, 0)) (by (with_reducible repeat (first | refine blk_drewN ?_ _ | refine blk_drew ?_ | refine blk_alloc ?_ _)); exact BK364.out)) : gb374 ≠ gb364)); clear BK364; clear HB; have BK364 := n0_; have HB := n1_; have BK374 := n2_; have GW374 := n3_; have GE374 := n4_; have NB364_374 := n5_; have NB374_364 := n6_; clear n0_ n1_ n2_ n3_ n4_ n5_ n6_; clear hb hbox hg; have hnb42 := NB374_364.out; have hnc42 := NB364_374.out; have hcz43_0 : w41.cell? ⟨gb374, 0, none⟩ = some (.int .i64 0) := (blk_cell BK374.out 0).trans rfl; have hcz43_1 : w41.cell? ⟨gb374, 1, none⟩ = some (.int .u32 0) := (blk_cell BK374.out 1).trans rfl; have hcz43_2 : w41.cell? ⟨gb374, 2, none⟩ = some (.int .u32 0) := (blk_cell BK374.out 2).trans rfl; have hcz43_3 : w41.cell? ⟨gb374, 3, none⟩ = some (.int .u32 0) := (blk_cell BK374.out 3).trans rfl; have hcz43_4 : w41.cell? ⟨gb374, 4, none⟩ = some (.bool false) := (blk_cell BK374.out 4).trans rfl; have hfz43_0 := blk_frozen BK374.out 0; have hfz43_1 := blk_frozen BK374.out 1; have hfz43_2 := blk_frozen BK374.out 2; have hfz43_3 := blk_frozen BK374.out 3; have hfz43_4 := blk_frozen BK374.out 4) | ((with_reducible refine gate_callee (f := 37) rfl ?_); refine goesL_ (some 52) rfl rfl Try.func37 (by kernel_rfl) rfl #[.agg #[.int .i64 t369, .int .u32 t370, .int .u32 t371, .int .u32 t372, .bool t373], .int .u32 (Go.bits .and .u32 a1 ((IntKind.u64.wrap ((ji10) - 1)) % 4294967296)), .int .u32 (Go.bits .and .u32 a2 ((IntKind.u64.wrap ((ji10) - 1)) % 4294967296)), .int .i64 a3] rfl (by (try simp only [List.map_toArray, List.map_cons, List.map_nil]); first | done | (simp only [hji10]; rfl) | rfl | (simp only [List.length_drop, List.length_take]; rfl) | (simp [Act.eval, IntKind.wrap_u8, IntKind.wrap_u32]; done)) ?_; (with_reducible refine (crc_Join.calls k t369 t370 t371 t372 t373 (Go.bits .and .u32 a1 ((IntKind.u64.wrap ((ji10) - 1)) % 4294967296)) (Go.bits .and .u32 a2 ((IntKind.u64.wrap ((ji10) - 1)) % 4294967296)) a3 t375 t376 _ A11.out).mono ?_); rintro e w44 ⟨rfl, hb⟩; refine ⟨_, rfl, ?_⟩; have n0_ := Aside0.mk (blk_below (g := gb364) (o := .cells #[.int .i64 a0_0, .int .u32 a0_1, .int .u32 a0_2, .int .u32 a0_3, .bool a0_4] 24 (0, 0)) (by (with_reducible repeat (first | refine blk_drewN ?_ _ | refine blk_drew ?_ | refine blk_alloc ?_ _)); refine blk_far ?_ NB364_374.out _; (with_reducible repeat (first | refine blk_drewN ?_ _ | refine blk_drew ?_ | refine blk_alloc ?_ _)); refine blk_far ?_ NB364_374.out _; (with_reducible repeat (first | refine blk_drewN ?_ _ | refine blk_drew ?_ | refine blk_alloc ?_ _)); refine blk_far ?_ NB364_374.out _; (with_reducible repeat (first | refine blk_drewN ?_ _ | refine blk_drew ?_ | refine blk_alloc ?_ _)); refine blk_far ?_ NB364_374.out _; (with_reducible repeat (first | refine blk_drewN ?_ _ | refine blk_drew ?_ | refine blk_alloc ?_ _)); refine blk_far ?_ NB364_374.out _; (with_reducible repeat (first | refine blk_drewN ?_ _ | refine blk_drew ?_ | refine blk_alloc ?_ _)); exact BK364.out) hb); have n1_ := Aside0.mk (blk_below (g := gb374) (o := .cells #[.int .i64 t369, .int .u32 t370, .int .u32 t371, .int .u32 t372, .bool t373] 24 (0, 0)) (by (with_reducible repeat (first | refine blk_drewN ?_ _ | refine blk_drew ?_ | refine blk_alloc ?_ _)); refine blk_put (cs := #[.int .i64 t369, .int .u32 t370, .int .u32 t371, .int .u32 t372, .bool false]) ?_ 4 _ rfl; (with_reducible repeat (first | refine blk_drewN ?_ _ | refine blk_drew ?_ | refine blk_alloc ?_ _)); refine blk_put (cs := #[.int .i64 t369, .int .u32 t370, .int .u32 t371, .int .u32 0, .bool false]) ?_ 3 _ rfl; (with_reducible repeat (first | refine blk_drewN ?_ _ | refine blk_drew ?_ | refine blk_alloc ?_ _)); refine blk_put (cs := #[.int .i64 t369, .int .u32 t370, .int .u32 0, .int .u32 0, .bool false]) ?_ 2 _ rfl; (with_reducible repeat (first | refine blk_drewN ?_ _ | refine blk_drew ?_ | refine blk_alloc ?_ _)); refine blk_put (cs := #[.int .i64 t369, .int .u32 0, .int .u32 0, .int .u32 0, .bool false]) ?_ 1 _ rfl; (with_reducible repeat (first | refine blk_drewN ?_ _ | refine blk_drew ?_ | refine blk_alloc ?_ _)); refine blk_put (cs := #[.int .i64 0, .int .u32 0, .int .u32 0, .int .u32 0, .bool false]) ?_ 0 _ rfl; (with_reducible repeat (first | refine blk_drewN ?_ _ | refine blk_drew ?_ | refine blk_alloc ?_ _)); exact BK374.out) hb); have n2_ := Aside0.mk (below_step (by repeat (first | (with_reducible first | exact HB.out | apply below_alloc | apply pw_below_drewN | apply below_drew1 | refine below_set ?_ GE364.out | refine below_set ?_ GE374.out) | exact HB.out)) hb); clear BK364; clear BK374; clear HB; have BK364 := n0_; have BK374 := n1_; have HB := n2_; clear n0_ n1_ n2_; (try clear hb); (try clear hb2); (try clear hk); (try clear hi); have hcz45_0 : w44.cell? ⟨gb374, 0, none⟩ = some (.int .i64 t369) := (blk_cell BK374.out 0).trans rfl; have hcz45_1 : w44.cell? ⟨gb374, 1, none⟩ = some (.int .u32 t370) := (blk_cell BK374.out 1).trans rfl; have hcz45_2 : w44.cell? ⟨gb374, 2, none⟩ = some (.int .u32 t371) := (blk_cell BK374.out 2).trans rfl; have hcz45_3 : w44.cell? ⟨gb374, 3, none⟩ = some (.int .u32 t372) := (blk_cell BK374.out 3).trans rfl; have hcz45_4 : w44.cell? ⟨gb374, 4, none⟩ = some (.bool t373) := (blk_cell BK374.out 4).trans rfl; have hfz45_0 := blk_frozen BK374.out 0; have hfz45_1 := blk_frozen BK374.out 1; have hfz45_2 := blk_frozen BK374.out 2; have hfz45_3 := blk_frozen BK374.out 3; have hfz45_4 := blk_frozen BK374.out 4) | ((with_reducible refine gate_callee (f := 38) rfl ?_); refine goesL_ (some 64) rfl rfl Try.func38 (by kernel_rfl) rfl #[.agg #[.int .i64 t369, .int .u32 t370, .int .u32 t371, .int .u32 t372, .bool t373], .int .u32 (Go.bits .and .u32 a1 ((IntKind.u64.wrap ((ji10) - 1)) % 4294967296)), .int .u32 (Go.bits .and .u32 a2 ((IntKind.u64.wrap ((ji10) - 1)) % 4294967296)), .int .i64 a3] rfl (by (try simp only [List.map_toArray, List.map_cons, List.map_nil]); first | done | (simp only [hji10]; rfl) | rfl | (simp only [List.length_drop, List.length_take]; rfl) | (simp [Act.eval, IntKind.wrap_u8, IntKind.wrap_u32]; done)) ?_; (with_reducible refine (outpostref03_Join.calls k t369 t370 t371 t372 t373 (Go.bits .and .u32 a1 ((IntKind.u64.wrap ((ji10) - 1)) % 4294967296)) (Go.bits .and .u32 a2 ((IntKind.u64.wrap ((ji10) - 1)) % 4294967296)) a3 t377 t378 _ A12.out).mono ?_); rintro e w46 ⟨rfl, hb⟩; refine ⟨_, rfl, ?_⟩; have n0_ := Aside0.mk (blk_below (g := gb364) (o := .cells #[.int .i64 a0_0, .int .u32 a0_1, .int .u32 a0_2, .int .u32 a0_3, .bool a0_4] 24 (0, 0)) (by (with_reducible repeat (first | refine blk_drewN ?_ _ | refine blk_drew ?_ | refine blk_alloc ?_ _)); exact BK364.out) hb); have n1_ := Aside0.mk (blk_below (g := gb374) (o := .cells #[.int .i64 t369, .int .u32 t370, .int .u32 t371, .int .u32 t372, .bool t373] 24 (0, 0)) (by (with_reducible repeat (first | refine blk_drewN ?_ _ | refine blk_drew ?_ | refine blk_alloc ?_ _)); exact BK374.out) hb); have n2_ := Aside0.mk (below_step (by repeat (first | (with_reducible first | exact HB.out | apply below_alloc | apply pw_below_drewN | apply below_drew1 | refine below_set ?_ GE364.out | refine below_set ?_ GE374.out) | exact HB.out)) hb); clear BK364; clear BK374; clear HB; have BK364 := n0_; have BK374 := n1_; have HB := n2_; clear n0_ n1_ n2_; (try clear hb); (try clear hb2); (try clear hk); (try clear hi)) | (go_at_call 15; (with_reducible refine (outpostlaw03_num.calls t366 t379 _ A14.out).mono ?_); rintro e w' ⟨rfl, ⟨nd, rfl⟩⟩) | (go_at_call 15; (with_reducible refine (outpostlaw03_num.calls t376 t380 _ A17.out).mono ?_); rintro e w' ⟨rfl, ⟨nd, rfl⟩⟩))
            go_ret
            exact ⟨by first | rfl | (simp [errW_none, errW_some] <;> rfl) | (simp only [← hji8, ← hji10]; first | rfl | (simp [errW_none, errW_some] <;> rfl)) | (simp [*, errW_none, errW_some] <;> rfl), by repeat (first | (with_reducible first | exact HB.out | apply below_alloc | apply pw_below_drewN | apply below_drew1 | refine below_set ?_ GE364.out | refine below_set ?_ GE374.out) | exact HB.out)⟩
        · rw [if_neg c16] at H
          have c16b0 : (t375 == t377) = false := beq_eq_false_iff_ne.mpr c16
          have c16b1 : (t375 != t377) = true := bne_iff_ne.mpr c16
          obtain rfl := Option.some.inj H
          go_enter Try.func11, Try.ntmps11
          go_wp2_with (first | ((with_reducible refine gate_dst (N := 4) rfl ?_); refine box_event ?hg (N := 4) ?hd (cs := #[.int .i64 a0_0, .int .u32 a0_1, .int .u32 a0_2, .int .u32 a0_3, .bool a0_4]) (t := 24) ?hr ?_; (case hd => rfl); (case hg => rfl); (case hr => first | (go_simp; done) | (go_simp; rfl)); intro gb364 hg w47 hbox hb; have n0_ := Aside0.mk (below_step (by repeat (first | (with_reducible first | exact HB.out | apply below_alloc | apply pw_below_drewN | apply below_drew1) | exact HB.out)) hb); have n1_ := Aside0.mk (hbox); have n2_ := Aside0.mk ((by rw [hg]; exact (below_size (by repeat (first | (with_reducible first | exact HB.out | apply below_alloc | apply pw_below_drewN | apply below_drew1) | exact HB.out))) : w.heap.size ≤ gb364)); have n3_ := Aside0.mk ((by rw [hg]; exact (below_size (by repeat (first | (with_reducible first | exact HB.out | apply below_alloc | apply pw_below_drewN | apply below_drew1) | exact HB.out))) : w.heap.size ≤ gb364)); clear HB; have HB := n0_; have BK364 := n1_; have GW364 := n2_; have GE364 := n3_; clear n0_ n1_ n2_ n3_; clear hb hbox hg; have hcz48_0 : w47.cell? ⟨gb364, 0, none⟩ = some (.int .i64 a0_0) := (blk_cell BK364.out 0).trans rfl; have hcz48_1 : w47.cell? ⟨gb364, 1, none⟩ = some (.int .u32 a0_1) := (blk_cell BK364.out 1).trans rfl; have hcz48_2 : w47.cell? ⟨gb364, 2, none⟩ = some (.int .u32 a0_2) := (blk_cell BK364.out 2).trans rfl; have hcz48_3 : w47.cell? ⟨gb364, 3, none⟩ = some (.int .u32 a0_3) := (blk_cell BK364.out 3).trans rfl; have hcz48_4 : w47.cell? ⟨gb364, 4, none⟩ = some (.bool a0_4) := (blk_cell BK364.out 4).trans rfl; have hfz48_0 := blk_frozen BK364.out 0; have hfz48_1 := blk_frozen BK364.out 1; have hfz48_2 := blk_frozen BK364.out 2; have hfz48_3 := blk_frozen BK364.out 3; have hfz48_4 := blk_frozen BK364.out 4) | ((with_reducible refine gate_callee (f := 37) rfl ?_); refine goesL_ (some 24) rfl rfl Try.func37 (by kernel_rfl) rfl #[.agg #[.int .i64 a0_0, .int .u32 a0_1, .int .u32 a0_2, .int .u32 a0_3, .bool a0_4], .int .u32 a1, .int .u32 a2, .int .i64 a3] rfl (by (try simp only [List.map_toArray, List.map_cons, List.map_nil]); first | done | rfl | (simp only [List.length_drop, List.length_take]; rfl) | (simp [Act.eval, IntKind.wrap_u8, IntKind.wrap_u32]; done)) ?_; (with_reducible refine (crc_Join.calls k a0_0 a0_1 a0_2 a0_3 a0_4 a1 a2 a3 t365 t366 _ A5.out).mono ?_); rintro e w49 ⟨rfl, hb⟩; refine ⟨_, rfl, ?_⟩; have n0_ := Aside0.mk (blk_below (g := gb364) (o := .cells #[.int .i64 a0_0, .int .u32 a0_1, .int .u32 a0_2, .int .u32 a0_3, .bool a0_4] 24 (0, 0)) (by (with_reducible repeat (first | refine blk_drewN ?_ _ | refine blk_drew ?_ | refine blk_alloc ?_ _)); exact BK364.out) hb); have n1_ := Aside0.mk (below_step (by repeat (first | (with_reducible first | exact HB.out | apply below_alloc | apply pw_below_drewN | apply below_drew1 | refine below_set ?_ GE364.out) | exact HB.out)) hb); clear BK364; clear HB; have BK364 := n0_; have HB := n1_; clear n0_ n1_; (try clear hb); (try clear hb2); (try clear hk); (try clear hi); have hcz50_0 : w49.cell? ⟨gb364, 0, none⟩ = some (.int .i64 a0_0) := (blk_cell BK364.out 0).trans rfl; have hcz50_1 : w49.cell? ⟨gb364, 1, none⟩ = some (.int .u32 a0_1) := (blk_cell BK364.out 1).trans rfl; have hcz50_2 : w49.cell? ⟨gb364, 2, none⟩ = some (.int .u32 a0_2) := (blk_cell BK364.out 2).trans rfl; have hcz50_3 : w49.cell? ⟨gb364, 3, none⟩ = some (.int .u32 a0_3) := (blk_cell BK364.out 3).trans rfl; have hcz50_4 : w49.cell? ⟨gb364, 4, none⟩ = some (.bool a0_4) := (blk_cell BK364.out 4).trans rfl; have hfz50_0 := blk_frozen BK364.out 0; have hfz50_1 := blk_frozen BK364.out 1; have hfz50_2 := blk_frozen BK364.out 2; have hfz50_3 := blk_frozen BK364.out 3; have hfz50_4 := blk_frozen BK364.out 4) | ((with_reducible refine gate_callee (f := 38) rfl ?_); refine goesL_ (some 32) rfl rfl Try.func38 (by kernel_rfl) rfl #[.agg #[.int .i64 a0_0, .int .u32 a0_1, .int .u32 a0_2, .int .u32 a0_3, .bool a0_4], .int .u32 a1, .int .u32 a2, .int .i64 a3] rfl (by (try simp only [List.map_toArray, List.map_cons, List.map_nil]); first | done | rfl | (simp only [List.length_drop, List.length_take]; rfl) | (simp [Act.eval, IntKind.wrap_u8, IntKind.wrap_u32]; done)) ?_; (with_reducible refine (outpostref03_Join.calls k a0_0 a0_1 a0_2 a0_3 a0_4 a1 a2 a3 t367 t368 _ A6.out).mono ?_); rintro e w51 ⟨rfl, hb⟩; refine ⟨_, rfl, ?_⟩; have n0_ := Aside0.mk (blk_below (g := gb364) (o := .cells #[.int .i64 a0_0, .int .u32 a0_1, .int .u32 a0_2, .int .u32 a0_3, .bool a0_4] 24 (0, 0)) (by (with_reducible repeat (first | refine blk_drewN ?_ _ | refine blk_drew ?_ | refine blk_alloc ?_ _)); exact BK364.out) hb); have n1_ := Aside0.mk (below_step (by repeat (first | (with_reducible first | exact HB.out | apply below_alloc | apply pw_below_drewN | apply below_drew1 | refine below_set ?_ GE364.out) | exact HB.out)) hb); clear BK364; clear HB; have BK364 := n0_; have HB := n1_; clear n0_ n1_; (try clear hb); (try clear hb2); (try clear hk); (try clear hi); have hcz52_0 : w51.cell? ⟨gb364, 0, none⟩ = some (.int .i64 a0_0) := (blk_cell BK364.out 0).trans rfl; have hcz52_1 : w51.cell? ⟨gb364, 1, none⟩ = some (.int .u32 a0_1) := (blk_cell BK364.out 1).trans rfl; have hcz52_2 : w51.cell? ⟨gb364, 2, none⟩ = some (.int .u32 a0_2) := (blk_cell BK364.out 2).trans rfl; have hcz52_3 : w51.cell? ⟨gb364, 3, none⟩ = some (.int .u32 a0_3) := (blk_cell BK364.out 3).trans rfl; have hcz52_4 : w51.cell? ⟨gb364, 4, none⟩ = some (.bool a0_4) := (blk_cell BK364.out 4).trans rfl; have hfz52_0 := blk_frozen BK364.out 0; have hfz52_1 := blk_frozen BK364.out 1; have hfz52_2 := blk_frozen BK364.out 2; have hfz52_3 := blk_frozen BK364.out 3; have hfz52_4 := blk_frozen BK364.out 4) | ((with_reducible refine gate_callee (f := 19) rfl ?_); refine goesL_ (some 36) rfl rfl Try.func19 (by kernel_rfl) rfl #[.agg #[.int .i64 a0_0, .int .u32 a0_1, .int .u32 a0_2, .int .u32 a0_3, .bool a0_4]] rfl (by (try simp only [List.map_toArray, List.map_cons, List.map_nil]); first | done | rfl | (simp only [List.length_drop, List.length_take]; rfl) | (simp [Act.eval, IntKind.wrap_u8, IntKind.wrap_u32]; done)) ?_; (with_reducible refine (outpostlaw03_Good.calls a0_0 a0_1 a0_2 a0_3 a0_4 t369 t370 t371 t372 t373 _ A7.out).mono ?_); rintro e w53 ⟨rfl, hb⟩; refine ⟨_, rfl, ?_⟩; have n0_ := Aside0.mk (blk_below (g := gb364) (o := .cells #[.int .i64 a0_0, .int .u32 a0_1, .int .u32 a0_2, .int .u32 a0_3, .bool a0_4] 24 (0, 0)) (by (with_reducible repeat (first | refine blk_drewN ?_ _ | refine blk_drew ?_ | refine blk_alloc ?_ _)); exact BK364.out) hb); have n1_ := Aside0.mk (below_step (by repeat (first | (with_reducible first | exact HB.out | apply below_alloc | apply pw_below_drewN | apply below_drew1 | refine below_set ?_ GE364.out) | exact HB.out)) hb); clear BK364; clear HB; have BK364 := n0_; have HB := n1_; clear n0_ n1_; (try clear hb); (try clear hb2); (try clear hk); (try clear hi)) | ((with_reducible refine gate_dst (N := 13) rfl ?_); refine box_event ?hg (N := 13) ?hd (cs := #[.int .i64 0, .int .u32 0, .int .u32 0, .int .u32 0, .bool false]) (t := 24) ?hr ?_; (case hd => rfl); (case hg => rfl); (case hr => first | (go_simp; done) | (go_simp; rfl)); intro gb374 hg w54 hbox hb; have n0_ := Aside0.mk (blk_below (g := gb364) (o := .cells #[.int .i64 a0_0, .int .u32 a0_1, .int .u32 a0_2, .int .u32 a0_3, .bool a0_4] 24 (0, 0)) (by (with_reducible repeat (first | refine blk_drewN ?_ _ | refine blk_drew ?_ | refine blk_alloc ?_ _)); exact BK364.out) hb); have n1_ := Aside0.mk (below_step (by repeat (first | (with_reducible first | exact HB.out | apply below_alloc | apply pw_below_drewN | apply below_drew1 | refine below_set ?_ GE364.out) | exact HB.out)) hb); have n2_ := Aside0.mk (hbox); have n3_ := Aside0.mk ((by rw [hg]; exact (below_size (by repeat (first | (with_reducible first | exact HB.out | apply below_alloc | apply pw_below_drewN | apply below_drew1 | refine below_set ?_ GE364.out) | exact HB.out))) : w.heap.size ≤ gb374)); have n4_ := Aside0.mk ((by rw [hg]; exact (below_size (by repeat (first | (with_reducible first | exact HB.out | apply below_alloc | apply pw_below_drewN | apply below_drew1 | refine below_set ?_ GE364.out) | exact HB.out))) : w.heap.size ≤ gb374)); have n5_ := Aside0.mk ((by rw [hg]; exact Nat.ne_of_lt (blk_lt (g := gb364) (o := .cells #[.int .i64 a0_0, .int .u32 a0_1, .int .u32 a0_2, .int .u32 a0_3, .bool a0_4] 24 (0, 0)) (by (with_reducible repeat (first | refine blk_drewN ?_ _ | refine blk_drew ?_ | refine blk_alloc ?_ _)); exact BK364.out)) : gb364 ≠ gb374)); have n6_ := Aside0.mk ((by rw [hg]; exact Nat.ne_of_gt (blk_lt (g := gb364) (o := .cells #[.int .i64 a0_0, .int .u32 a0_1, .int .u32 a0_2, .int .u32 a0_3, .bool a0_4] 24 (0, 0)) (by (with_reducible repeat (first | refine blk_drewN ?_ _ | refine blk_drew ?_ | refine blk_alloc ?_ _)); exact BK364.out)) : gb374 ≠ gb364)); clear BK364; clear HB; have BK364 := n0_; have HB := n1_; have BK374 := n2_; have GW374 := n3_; have GE374 := n4_; have NB364_374 := n5_; have NB374_364 := n6_; clear n0_ n1_ n2_ n3_ n4_ n5_ n6_; clear hb hbox hg; have hnb55 := NB374_364.out; have hnc55 := NB364_374.out; have hcz56_0 : w54.cell? ⟨gb374, 0, none⟩ = some (.int .i64 0) := (blk_cell BK374.out 0).trans rfl; have hcz56_1 : w54.cell? ⟨gb374, 1, none⟩ = some (.int .u32 0) := (blk_cell BK374.out 1).trans rfl; have hcz56_2 : w54.cell? ⟨gb374, 2, none⟩ = some (.int .u32 0) := (blk_cell BK374.out 2).trans rfl; have hcz56_3 : w54.cell? ⟨gb374, 3, none⟩ = some (.int .u32 0) := (blk_cell BK374.out 3).trans rfl; have hcz56_4 : w54.cell? ⟨gb374, 4, none⟩ = some (.bool false) := (blk_cell BK374.out 4).trans rfl; have hfz56_0 := blk_frozen BK374.out 0; have hfz56_1 := blk_frozen BK374.out 1; have hfz56_2 := blk_frozen BK374.out 2; have hfz56_3 := blk_frozen BK374.out 3; have hfz56_4 := blk_frozen BK374.out 4) | ((with_reducible refine gate_callee (f := 37) rfl ?_); refine goesL_ (some 52) rfl rfl Try.func37 (by kernel_rfl) rfl #[.agg #[.int .i64 t369, .int .u32 t370, .int .u32 t371, .int .u32 t372, .bool t373], .int .u32 (Go.bits .and .u32 a1 ((IntKind.u64.wrap ((ji10) - 1)) % 4294967296)), .int .u32 (Go.bits .and .u32 a2 ((IntKind.u64.wrap ((ji10) - 1)) % 4294967296)), .int .i64 a3] rfl (by (try simp only [List.map_toArray, List.map_cons, List.map_nil]); first | done | (simp only [hji10]; rfl) | rfl | (simp only [List.length_drop, List.length_take]; rfl) | (simp [Act.eval, IntKind.wrap_u8, IntKind.wrap_u32]; done)) ?_; (with_reducible refine (crc_Join.calls k t369 t370 t371 t372 t373 (Go.bits .and .u32 a1 ((IntKind.u64.wrap ((ji10) - 1)) % 4294967296)) (Go.bits .and .u32 a2 ((IntKind.u64.wrap ((ji10) - 1)) % 4294967296)) a3 t375 t376 _ A11.out).mono ?_); rintro e w57 ⟨rfl, hb⟩; refine ⟨_, rfl, ?_⟩; have n0_ := Aside0.mk (blk_below (g := gb364) (o := .cells #[.int .i64 a0_0, .int .u32 a0_1, .int .u32 a0_2, .int .u32 a0_3, .bool a0_4] 24 (0, 0)) (by (with_reducible repeat (first | refine blk_drewN ?_ _ | refine blk_drew ?_ | refine blk_alloc ?_ _)); refine blk_far ?_ NB364_374.out _; (with_reducible repeat (first | refine blk_drewN ?_ _ | refine blk_drew ?_ | refine blk_alloc ?_ _)); refine blk_far ?_ NB364_374.out _; (with_reducible repeat (first | refine blk_drewN ?_ _ | refine blk_drew ?_ | refine blk_alloc ?_ _)); refine blk_far ?_ NB364_374.out _; (with_reducible repeat (first | refine blk_drewN ?_ _ | refine blk_drew ?_ | refine blk_alloc ?_ _)); refine blk_far ?_ NB364_374.out _; (with_reducible repeat (first | refine blk_drewN ?_ _ | refine blk_drew ?_ | refine blk_alloc ?_ _)); refine blk_far ?_ NB364_374.out _; (with_reducible repeat (first | refine blk_drewN ?_ _ | refine blk_drew ?_ | refine blk_alloc ?_ _)); exact BK364.out) hb); have n1_ := Aside0.mk (blk_below (g := gb374) (o := .cells #[.int .i64 t369, .int .u32 t370, .int .u32 t371, .int .u32 t372, .bool t373] 24 (0, 0)) (by (with_reducible repeat (first | refine blk_drewN ?_ _ | refine blk_drew ?_ | refine blk_alloc ?_ _)); refine blk_put (cs := #[.int .i64 t369, .int .u32 t370, .int .u32 t371, .int .u32 t372, .bool false]) ?_ 4 _ rfl; (with_reducible repeat (first | refine blk_drewN ?_ _ | refine blk_drew ?_ | refine blk_alloc ?_ _)); refine blk_put (cs := #[.int .i64 t369, .int .u32 t370, .int .u32 t371, .int .u32 0, .bool false]) ?_ 3 _ rfl; (with_reducible repeat (first | refine blk_drewN ?_ _ | refine blk_drew ?_ | refine blk_alloc ?_ _)); refine blk_put (cs := #[.int .i64 t369, .int .u32 t370, .int .u32 0, .int .u32 0, .bool false]) ?_ 2 _ rfl; (with_reducible repeat (first | refine blk_drewN ?_ _ | refine blk_drew ?_ | refine blk_alloc ?_ _)); refine blk_put (cs := #[.int .i64 t369, .int .u32 0, .int .u32 0, .int .u32 0, .bool false]) ?_ 1 _ rfl; (with_reducible repeat (first | refine blk_drewN ?_ _ | refine blk_drew ?_ | refine blk_alloc ?_ _)); refine blk_put (cs := #[.int .i64 0, .int .u32 0, .int .u32 0, .int .u32 0, .bool false]) ?_ 0 _ rfl; (with_reducible repeat (first | refine blk_drewN ?_ _ | refine blk_drew ?_ | refine blk_alloc ?_ _)); exact BK374.out) hb); have n2_ := Aside0.mk (below_step (by repeat (first | (with_reducible first | exact HB.out | apply below_alloc | apply pw_below_drewN | apply below_drew1 | refine below_set ?_ GE364.out | refine below_set ?_ GE374.out) | exact HB.out)) hb); clear BK364; clear BK374; clear HB; have BK364 := n0_; have BK374 := n1_; have HB := n2_; clear n0_ n1_ n2_; (try clear hb); (try clear hb2); (try clear hk); (try clear hi); have hcz58_0 : w57.cell? ⟨gb374, 0, none⟩ = some (.int .i64 t369) := (blk_cell BK374.out 0).trans rfl; have hcz58_1 : w57.cell? ⟨gb374, 1, none⟩ = some (.int .u32 t370) := (blk_cell BK374.out 1).trans rfl; have hcz58_2 : w57.cell? ⟨gb374, 2, none⟩ = some (.int .u32 t371) := (blk_cell BK374.out 2).trans rfl; have hcz58_3 : w57.cell? ⟨gb374, 3, none⟩ = some (.int .u32 t372) := (blk_cell BK374.out 3).trans rfl; have hcz58_4 : w57.cell? ⟨gb374, 4, none⟩ = some (.bool t373) := (blk_cell BK374.out 4).trans rfl; have hfz58_0 := blk_frozen BK374.out 0; have hfz58_1 := blk_frozen BK374.out 1; have hfz58_2 := blk_frozen BK374.out 2; have hfz58_3 := blk_frozen BK374.out 3; have hfz58_4 := blk_frozen BK374.out 4) | ((with_reducible refine gate_callee (f := 38) rfl ?_); refine goesL_ (some 64) rfl rfl Try.func38 (by kernel_rfl) rfl #[.agg #[.int .i64 t369, .int .u32 t370, .int .u32 t371, .int .u32 t372, .bool t373], .int .u32 (Go.bits .and .u32 a1 ((IntKind.u64.wrap ((ji10) - 1)) % 4294967296)), .int .u32 (Go.bits .and .u32 a2 ((IntKind.u64.wrap ((ji10) - 1)) % 4294967296)), .int .i64 a3] rfl (by (try simp only [List.map_toArray, List.map_cons, List.map_nil]); first | done | (simp only [hji10]; rfl) | rfl | (simp only [List.length_drop, List.length_take]; rfl) | (simp [Act.eval, IntKind.wrap_u8, IntKind.wrap_u32]; done)) ?_; (with_reducible refine (outpostref03_Join.calls k t369 t370 t371 t372 t373 (Go.bits .and .u32 a1 ((IntKind.u64.wrap ((ji10) - 1)) % 4294967296)) (Go.bits .and .u32 a2 ((IntKind.u64.wrap ((ji10) - 1)) % 4294967296)) a3 t377 t378 _ A12.out).mono ?_); rintro e w59 ⟨rfl, hb⟩; refine ⟨_, rfl, ?_⟩; have n0_ := Aside0.mk (blk_below (g := gb364) (o := .cells #[.int .i64 a0_0, .int .u32 a0_1, .int .u32 a0_2, .int .u32 a0_3, .bool a0_4] 24 (0, 0)) (by (with_reducible repeat (first | refine blk_drewN ?_ _ | refine blk_drew ?_ | refine blk_alloc ?_ _)); exact BK364.out) hb); have n1_ := Aside0.mk (blk_below (g := gb374) (o := .cells #[.int .i64 t369, .int .u32 t370, .int .u32 t371, .int .u32 t372, .bool t373] 24 (0, 0)) (by (with_reducible repeat (first | refine blk_drewN ?_ _ | refine blk_drew ?_ | refine blk_alloc ?_ _)); exact BK374.out) hb); have n2_ := Aside0.mk (below_step (by repeat (first | (with_reducible first | exact HB.out | apply below_alloc | apply pw_below_drewN | apply below_drew1 | refine below_set ?_ GE364.out | refine below_set ?_ GE374.out) | exact HB.out)) hb); clear BK364; clear BK374; clear HB; have BK364 := n0_; have BK374 := n1_; have HB := n2_; clear n0_ n1_ n2_; (try clear hb); (try clear hb2); (try clear hk); (try clear hi)) | (go_at_call 15; (with_reducible refine (outpostlaw03_num.calls t366 t379 _ A14.out).mono ?_); rintro e w' ⟨rfl, ⟨nd, rfl⟩⟩))
          go_ret
          exact ⟨by first | rfl | (simp [errW_none, errW_some] <;> rfl) | (simp only [← hji8, ← hji10]; first | rfl | (simp [errW_none, errW_some] <;> rfl)) | (simp [*, errW_none, errW_some] <;> rfl), by repeat (first | (with_reducible first | exact HB.out | apply below_alloc | apply pw_below_drewN | apply below_drew1 | refine below_set ?_ GE364.out | refine below_set ?_ GE374.out) | exact HB.out)⟩
      · rw [if_neg c15] at H
        have c15b0 : (t379 == t368) = false := beq_eq_false_iff_ne.mpr c15
        have c15b1 : (t379 != t368) = true := bne_iff_ne.mpr c15
        obtain rfl := Option.some.inj H
        go_enter Try.func11, Try.ntmps11
        go_wp2_with (first | ((with_reducible refine gate_dst (N := 4) rfl ?_); refine box_event ?hg (N := 4) ?hd (cs := #[.int .i64 a0_0, .int .u32 a0_1, .int .u32 a0_2, .int .u32 a0_3, .bool a0_4]) (t := 24) ?hr ?_; (case hd => rfl); (case hg => rfl); (case hr => first | (go_simp; done) | (go_simp; rfl)); intro gb364 hg w60 hbox hb; have n0_ := Aside0.mk (below_step (by repeat (first | (with_reducible first | exact HB.out | apply below_alloc | apply pw_below_drewN | apply below_drew1) | exact HB.out)) hb); have n1_ := Aside0.mk (hbox); have n2_ := Aside0.mk ((by rw [hg]; exact (below_size (by repeat (first | (with_reducible first | exact HB.out | apply below_alloc | apply pw_below_drewN | apply below_drew1) | exact HB.out))) : w.heap.size ≤ gb364)); have n3_ := Aside0.mk ((by rw [hg]; exact (below_size (by repeat (first | (with_reducible first | exact HB.out | apply below_alloc | apply pw_below_drewN | apply below_drew1) | exact HB.out))) : w.heap.size ≤ gb364)); clear HB; have HB := n0_; have BK364 := n1_; have GW364 := n2_; have GE364 := n3_; clear n0_ n1_ n2_ n3_; clear hb hbox hg; have hcz61_0 : w60.cell? ⟨gb364, 0, none⟩ = some (.int .i64 a0_0) := (blk_cell BK364.out 0).trans rfl; have hcz61_1 : w60.cell? ⟨gb364, 1, none⟩ = some (.int .u32 a0_1) := (blk_cell BK364.out 1).trans rfl; have hcz61_2 : w60.cell? ⟨gb364, 2, none⟩ = some (.int .u32 a0_2) := (blk_cell BK364.out 2).trans rfl; have hcz61_3 : w60.cell? ⟨gb364, 3, none⟩ = some (.int .u32 a0_3) := (blk_cell BK364.out 3).trans rfl; have hcz61_4 : w60.cell? ⟨gb364, 4, none⟩ = some (.bool a0_4) := (blk_cell BK364.out 4).trans rfl; have hfz61_0 := blk_frozen BK364.out 0; have hfz61_1 := blk_frozen BK364.out 1; have hfz61_2 := blk_frozen BK364.out 2; have hfz61_3 := blk_frozen BK364.out 3; have hfz61_4 := blk_frozen BK364.out 4) | ((with_reducible refine gate_callee (f := 37) rfl ?_); refine goesL_ (some 24) rfl rfl Try.func37 (by kernel_rfl) rfl #[.agg #[.int .i64 a0_0, .int .u32 a0_1, .int .u32 a0_2, .int .u32 a0_3, .bool a0_4], .int .u32 a1, .int .u32 a2, .int .i64 a3] rfl (by (try simp only [List.map_toArray, List.map_cons, List.map_nil]); first | done | rfl | (simp only [List.length_drop, List.length_take]; rfl) | (simp [Act.eval, IntKind.wrap_u8, IntKind.wrap_u32]; done)) ?_; (with_reducible refine (crc_Join.calls k a0_0 a0_1 a0_2 a0_3 a0_4 a1 a2 a3 t365 t366 _ A5.out).mono ?_); rintro e w62 ⟨rfl, hb⟩; refine ⟨_, rfl, ?_⟩; have n0_ := Aside0.mk (blk_below (g := gb364) (o := .cells #[.int .i64 a0_0, .int .u32 a0_1, .int .u32 a0_2, .int .u32 a0_3, .bool a0_4] 24 (0, 0)) (by (with_reducible repeat (first | refine blk_drewN ?_ _ | refine blk_drew ?_ | refine blk_alloc ?_ _)); exact BK364.out) hb); have n1_ := Aside0.mk (below_step (by repeat (first | (with_reducible first | exact HB.out | apply below_alloc | apply pw_below_drewN | apply below_drew1 | refine below_set ?_ GE364.out) | exact HB.out)) hb); clear BK364; clear HB; have BK364 := n0_; have HB := n1_; clear n0_ n1_; (try clear hb); (try clear hb2); (try clear hk); (try clear hi); have hcz63_0 : w62.cell? ⟨gb364, 0, none⟩ = some (.int .i64 a0_0) := (blk_cell BK364.out 0).trans rfl; have hcz63_1 : w62.cell? ⟨gb364, 1, none⟩ = some (.int .u32 a0_1) := (blk_cell BK364.out 1).trans rfl; have hcz63_2 : w62.cell? ⟨gb364, 2, none⟩ = some (.int .u32 a0_2) := (blk_cell BK364.out 2).trans rfl; have hcz63_3 : w62.cell? ⟨gb364, 3, none⟩ = some (.int .u32 a0_3) := (blk_cell BK364.out 3).trans rfl; have hcz63_4 : w62.cell? ⟨gb364, 4, none⟩ = some (.bool a0_4) := (blk_cell BK364.out 4).trans rfl; have hfz63_0 := blk_frozen BK364.out 0; have hfz63_1 := blk_frozen BK364.out 1; have hfz63_2 := blk_frozen BK364.out 2; have hfz63_3 := blk_frozen BK364.out 3; have hfz63_4 := blk_frozen BK364.out 4) | ((with_reducible refine gate_callee (f := 38) rfl ?_); refine goesL_ (some 32) rfl rfl Try.func38 (by kernel_rfl) rfl #[.agg #[.int .i64 a0_0, .int .u32 a0_1, .int .u32 a0_2, .int .u32 a0_3, .bool a0_4], .int .u32 a1, .int .u32 a2, .int .i64 a3] rfl (by (try simp only [List.map_toArray, List.map_cons, List.map_nil]); first | done | rfl | (simp only [List.length_drop, List.length_take]; rfl) | (simp [Act.eval, IntKind.wrap_u8, IntKind.wrap_u32]; done)) ?_; (with_reducible refine (outpostref03_Join.calls k a0_0 a0_1 a0_2 a0_3 a0_4 a1 a2 a3 t367 t368 _ A6.out).mono ?_); rintro e w64 ⟨rfl, hb⟩; refine ⟨_, rfl, ?_⟩; have n0_ := Aside0.mk (blk_below (g := gb364) (o := .cells #[.int .i64 a0_0, .int .u32 a0_1, .int .u32 a0_2, .int .u32 a0_3, .bool a0_4] 24 (0, 0)) (by (with_reducible repeat (first | refine blk_drewN ?_ _ | refine blk_drew ?_ | refine blk_alloc ?_ _)); exact BK364.out) hb); have n1_ := Aside0.mk (below_step (by repeat (first | (with_reducible first | exact HB.out | apply below_alloc | apply pw_below_drewN | apply below_drew1 | refine below_set ?_ GE364.out) | exact HB.out)) hb); clear BK364; clear HB; have BK364 := n0_; have HB := n1_; clear n0_ n1_; (try clear hb); (try clear hb2); (try clear hk); (try clear hi); have hcz65_0 : w64.cell? ⟨gb364, 0, none⟩ = some (.int .i64 a0_0) := (blk_cell BK364.out 0).trans rfl; have hcz65_1 : w64.cell? ⟨gb364, 1, none⟩ = some (.int .u32 a0_1) := (blk_cell BK364.out 1).trans rfl; have hcz65_2 : w64.cell? ⟨gb364, 2, none⟩ = some (.int .u32 a0_2) := (blk_cell BK364.out 2).trans rfl; have hcz65_3 : w64.cell? ⟨gb364, 3, none⟩ = some (.int .u32 a0_3) := (blk_cell BK364.out 3).trans rfl; have hcz65_4 : w64.cell? ⟨gb364, 4, none⟩ = some (.bool a0_4) := (blk_cell BK364.out 4).trans rfl; have hfz65_0 := blk_frozen BK364.out 0; have hfz65_1 := blk_frozen BK364.out 1; have hfz65_2 := blk_frozen BK364.out 2; have hfz65_3 := blk_frozen BK364.out 3; have hfz65_4 := blk_frozen BK364.out 4) | ((with_reducible refine gate_callee (f := 19) rfl ?_); refine goesL_ (some 36) rfl rfl Try.func19 (by kernel_rfl) rfl #[.agg #[.int .i64 a0_0, .int .u32 a0_1, .int .u32 a0_2, .int .u32 a0_3, .bool a0_4]] rfl (by (try simp only [List.map_toArray, List.map_cons, List.map_nil]); first | done | rfl | (simp only [List.length_drop, List.length_take]; rfl) | (simp [Act.eval, IntKind.wrap_u8, IntKind.wrap_u32]; done)) ?_; (with_reducible refine (outpostlaw03_Good.calls a0_0 a0_1 a0_2 a0_3 a0_4 t369 t370 t371 t372 t373 _ A7.out).mono ?_); rintro e w66 ⟨rfl, hb⟩; refine ⟨_, rfl, ?_⟩; have n0_ := Aside0.mk (blk_below (g := gb364) (o := .cells #[.int .i64 a0_0, .int .u32 a0_1, .int .u32 a0_2, .int .u32 a0_3, .bool a0_4] 24 (0, 0)) (by (with_reducible repeat (first | refine blk_drewN ?_ _ | refine blk_drew ?_ | refine blk_alloc ?_ _)); exact BK364.out) hb); have n1_ := Aside0.mk (below_step (by repeat (first | (with_reducible first | exact HB.out | apply below_alloc | apply pw_below_drewN | apply below_drew1 | refine below_set ?_ GE364.out) | exact HB.out)) hb); clear BK364; clear HB; have BK364 := n0_; have HB := n1_; clear n0_ n1_; (try clear hb); (try clear hb2); (try clear hk); (try clear hi)) | ((with_reducible refine gate_dst (N := 13) rfl ?_); refine box_event ?hg (N := 13) ?hd (cs := #[.int .i64 0, .int .u32 0, .int .u32 0, .int .u32 0, .bool false]) (t := 24) ?hr ?_; (case hd => rfl); (case hg => rfl); (case hr => first | (go_simp; done) | (go_simp; rfl)); intro gb374 hg w67 hbox hb; have n0_ := Aside0.mk (blk_below (g := gb364) (o := .cells #[.int .i64 a0_0, .int .u32 a0_1, .int .u32 a0_2, .int .u32 a0_3, .bool a0_4] 24 (0, 0)) (by (with_reducible repeat (first | refine blk_drewN ?_ _ | refine blk_drew ?_ | refine blk_alloc ?_ _)); exact BK364.out) hb); have n1_ := Aside0.mk (below_step (by repeat (first | (with_reducible first | exact HB.out | apply below_alloc | apply pw_below_drewN | apply below_drew1 | refine below_set ?_ GE364.out) | exact HB.out)) hb); have n2_ := Aside0.mk (hbox); have n3_ := Aside0.mk ((by rw [hg]; exact (below_size (by repeat (first | (with_reducible first | exact HB.out | apply below_alloc | apply pw_below_drewN | apply below_drew1 | refine below_set ?_ GE364.out) | exact HB.out))) : w.heap.size ≤ gb374)); have n4_ := Aside0.mk ((by rw [hg]; exact (below_size (by repeat (first | (with_reducible first | exact HB.out | apply below_alloc | apply pw_below_drewN | apply below_drew1 | refine below_set ?_ GE364.out) | exact HB.out))) : w.heap.size ≤ gb374)); have n5_ := Aside0.mk ((by rw [hg]; exact Nat.ne_of_lt (blk_lt (g := gb364) (o := .cells #[.int .i64 a0_0, .int .u32 a0_1, .int .u32 a0_2, .int .u32 a0_3, .bool a0_4] 24 (0, 0)) (by (with_reducible repeat (first | refine blk_drewN ?_ _ | refine blk_drew ?_ | refine blk_alloc ?_ _)); exact BK364.out)) : gb364 ≠ gb374)); have n6_ := Aside0.mk ((by rw [hg]; exact Nat.ne_of_gt (blk_lt (g := gb364) (o := .cells #[.int .i64 a0_0, .int .u32 a0_1, .int .u32 a0_2, .int .u32 a0_3, .bool a0_4] 24 (0, 0)) (by (with_reducible repeat (first | refine blk_drewN ?_ _ | refine blk_drew ?_ | refine blk_alloc ?_ _)); exact BK364.out)) : gb374 ≠ gb364)); clear BK364; clear HB; have BK364 := n0_; have HB := n1_; have BK374 := n2_; have GW374 := n3_; have GE374 := n4_; have NB364_374 := n5_; have NB374_364 := n6_; clear n0_ n1_ n2_ n3_ n4_ n5_ n6_; clear hb hbox hg; have hnb68 := NB374_364.out; have hnc68 := NB364_374.out; have hcz69_0 : w67.cell? ⟨gb374, 0, none⟩ = some (.int .i64 0) := (blk_cell BK374.out 0).trans rfl; have hcz69_1 : w67.cell? ⟨gb374, 1, none⟩ = some (.int .u32 0) := (blk_cell BK374.out 1).trans rfl; have hcz69_2 : w67.cell? ⟨gb374, 2, none⟩ = some (.int .u32 0) := (blk_cell BK374.out 2).trans rfl; have hcz69_3 : w67.cell? ⟨gb374, 3, none⟩ = some (.int .u32 0) := (blk_cell BK374.out 3).trans rfl; have hcz69_4 : w67.cell? ⟨gb374, 4, none⟩ = some (.bool false) := (blk_cell BK374.out 4).trans rfl; have hfz69_0 := blk_frozen BK374.out 0; have hfz69_1 := blk_frozen BK374.out 1; have hfz69_2 := blk_frozen BK374.out 2; have hfz69_3 := blk_frozen BK374.out 3; have hfz69_4 := blk_frozen BK374.out 4) | ((with_reducible refine gate_callee (f := 37) rfl ?_); refine goesL_ (some 52) rfl rfl Try.func37 (by kernel_rfl) rfl #[.agg #[.int .i64 t369, .int .u32 t370, .int .u32 t371, .int .u32 t372, .bool t373], .int .u32 (Go.bits .and .u32 a1 ((IntKind.u64.wrap ((ji10) - 1)) % 4294967296)), .int .u32 (Go.bits .and .u32 a2 ((IntKind.u64.wrap ((ji10) - 1)) % 4294967296)), .int .i64 a3] rfl (by (try simp only [List.map_toArray, List.map_cons, List.map_nil]); first | done | (simp only [hji10]; rfl) | rfl | (simp only [List.length_drop, List.length_take]; rfl) | (simp [Act.eval, IntKind.wrap_u8, IntKind.wrap_u32]; done)) ?_; (with_reducible refine (crc_Join.calls k t369 t370 t371 t372 t373 (Go.bits .and .u32 a1 ((IntKind.u64.wrap ((ji10) - 1)) % 4294967296)) (Go.bits .and .u32 a2 ((IntKind.u64.wrap ((ji10) - 1)) % 4294967296)) a3 t375 t376 _ A11.out).mono ?_); rintro e w70 ⟨rfl, hb⟩; refine ⟨_, rfl, ?_⟩; have n0_ := Aside0.mk (blk_below (g := gb364) (o := .cells #[.int .i64 a0_0, .int .u32 a0_1, .int .u32 a0_2, .int .u32 a0_3, .bool a0_4] 24 (0, 0)) (by (with_reducible repeat (first | refine blk_drewN ?_ _ | refine blk_drew ?_ | refine blk_alloc ?_ _)); refine blk_far ?_ NB364_374.out _; (with_reducible repeat (first | refine blk_drewN ?_ _ | refine blk_drew ?_ | refine blk_alloc ?_ _)); refine blk_far ?_ NB364_374.out _; (with_reducible repeat (first | refine blk_drewN ?_ _ | refine blk_drew ?_ | refine blk_alloc ?_ _)); refine blk_far ?_ NB364_374.out _; (with_reducible repeat (first | refine blk_drewN ?_ _ | refine blk_drew ?_ | refine blk_alloc ?_ _)); refine blk_far ?_ NB364_374.out _; (with_reducible repeat (first | refine blk_drewN ?_ _ | refine blk_drew ?_ | refine blk_alloc ?_ _)); refine blk_far ?_ NB364_374.out _; (with_reducible repeat (first | refine blk_drewN ?_ _ | refine blk_drew ?_ | refine blk_alloc ?_ _)); exact BK364.out) hb); have n1_ := Aside0.mk (blk_below (g := gb374) (o := .cells #[.int .i64 t369, .int .u32 t370, .int .u32 t371, .int .u32 t372, .bool t373] 24 (0, 0)) (by (with_reducible repeat (first | refine blk_drewN ?_ _ | refine blk_drew ?_ | refine blk_alloc ?_ _)); refine blk_put (cs := #[.int .i64 t369, .int .u32 t370, .int .u32 t371, .int .u32 t372, .bool false]) ?_ 4 _ rfl; (with_reducible repeat (first | refine blk_drewN ?_ _ | refine blk_drew ?_ | refine blk_alloc ?_ _)); refine blk_put (cs := #[.int .i64 t369, .int .u32 t370, .int .u32 t371, .int .u32 0, .bool false]) ?_ 3 _ rfl; (with_reducible repeat (first | refine blk_drewN ?_ _ | refine blk_drew ?_ | refine blk_alloc ?_ _)); refine blk_put (cs := #[.int .i64 t369, .int .u32 t370, .int .u32 0, .int .u32 0, .bool false]) ?_ 2 _ rfl; (with_reducible repeat (first | refine blk_drewN ?_ _ | refine blk_drew ?_ | refine blk_alloc ?_ _)); refine blk_put (cs := #[.int .i64 t369, .int .u32 0, .int .u32 0, .int .u32 0, .bool false]) ?_ 1 _ rfl; (with_reducible repeat (first | refine blk_drewN ?_ _ | refine blk_drew ?_ | refine blk_alloc ?_ _)); refine blk_put (cs := #[.int .i64 0, .int .u32 0, .int .u32 0, .int .u32 0, .bool false]) ?_ 0 _ rfl; (with_reducible repeat (first | refine blk_drewN ?_ _ | refine blk_drew ?_ | refine blk_alloc ?_ _)); exact BK374.out) hb); have n2_ := Aside0.mk (below_step (by repeat (first | (with_reducible first | exact HB.out | apply below_alloc | apply pw_below_drewN | apply below_drew1 | refine below_set ?_ GE364.out | refine below_set ?_ GE374.out) | exact HB.out)) hb); clear BK364; clear BK374; clear HB; have BK364 := n0_; have BK374 := n1_; have HB := n2_; clear n0_ n1_ n2_; (try clear hb); (try clear hb2); (try clear hk); (try clear hi); have hcz71_0 : w70.cell? ⟨gb374, 0, none⟩ = some (.int .i64 t369) := (blk_cell BK374.out 0).trans rfl; have hcz71_1 : w70.cell? ⟨gb374, 1, none⟩ = some (.int .u32 t370) := (blk_cell BK374.out 1).trans rfl; have hcz71_2 : w70.cell? ⟨gb374, 2, none⟩ = some (.int .u32 t371) := (blk_cell BK374.out 2).trans rfl; have hcz71_3 : w70.cell? ⟨gb374, 3, none⟩ = some (.int .u32 t372) := (blk_cell BK374.out 3).trans rfl; have hcz71_4 : w70.cell? ⟨gb374, 4, none⟩ = some (.bool t373) := (blk_cell BK374.out 4).trans rfl; have hfz71_0 := blk_frozen BK374.out 0; have hfz71_1 := blk_frozen BK374.out 1; have hfz71_2 := blk_frozen BK374.out 2; have hfz71_3 := blk_frozen BK374.out 3; have hfz71_4 := blk_frozen BK374.out 4) | ((with_reducible refine gate_callee (f := 38) rfl ?_); refine goesL_ (some 64) rfl rfl Try.func38 (by kernel_rfl) rfl #[.agg #[.int .i64 t369, .int .u32 t370, .int .u32 t371, .int .u32 t372, .bool t373], .int .u32 (Go.bits .and .u32 a1 ((IntKind.u64.wrap ((ji10) - 1)) % 4294967296)), .int .u32 (Go.bits .and .u32 a2 ((IntKind.u64.wrap ((ji10) - 1)) % 4294967296)), .int .i64 a3] rfl (by (try simp only [List.map_toArray, List.map_cons, List.map_nil]); first | done | (simp only [hji10]; rfl) | rfl | (simp only [List.length_drop, List.length_take]; rfl) | (simp [Act.eval, IntKind.wrap_u8, IntKind.wrap_u32]; done)) ?_; (with_reducible refine (outpostref03_Join.calls k t369 t370 t371 t372 t373 (Go.bits .and .u32 a1 ((IntKind.u64.wrap ((ji10) - 1)) % 4294967296)) (Go.bits .and .u32 a2 ((IntKind.u64.wrap ((ji10) - 1)) % 4294967296)) a3 t377 t378 _ A12.out).mono ?_); rintro e w72 ⟨rfl, hb⟩; refine ⟨_, rfl, ?_⟩; have n0_ := Aside0.mk (blk_below (g := gb364) (o := .cells #[.int .i64 a0_0, .int .u32 a0_1, .int .u32 a0_2, .int .u32 a0_3, .bool a0_4] 24 (0, 0)) (by (with_reducible repeat (first | refine blk_drewN ?_ _ | refine blk_drew ?_ | refine blk_alloc ?_ _)); exact BK364.out) hb); have n1_ := Aside0.mk (blk_below (g := gb374) (o := .cells #[.int .i64 t369, .int .u32 t370, .int .u32 t371, .int .u32 t372, .bool t373] 24 (0, 0)) (by (with_reducible repeat (first | refine blk_drewN ?_ _ | refine blk_drew ?_ | refine blk_alloc ?_ _)); exact BK374.out) hb); have n2_ := Aside0.mk (below_step (by repeat (first | (with_reducible first | exact HB.out | apply below_alloc | apply pw_below_drewN | apply below_drew1 | refine below_set ?_ GE364.out | refine below_set ?_ GE374.out) | exact HB.out)) hb); clear BK364; clear BK374; clear HB; have BK364 := n0_; have BK374 := n1_; have HB := n2_; clear n0_ n1_ n2_; (try clear hb); (try clear hb2); (try clear hk); (try clear hi)) | (go_at_call 15; (with_reducible refine (outpostlaw03_num.calls t366 t379 _ A14.out).mono ?_); rintro e w' ⟨rfl, ⟨nd, rfl⟩⟩))
        go_ret
        exact ⟨by first | rfl | (simp [errW_none, errW_some] <;> rfl) | (simp only [← hji8, ← hji10]; first | rfl | (simp [errW_none, errW_some] <;> rfl)) | (simp [*, errW_none, errW_some] <;> rfl), by repeat (first | (with_reducible first | exact HB.out | apply below_alloc | apply pw_below_drewN | apply below_drew1 | refine below_set ?_ GE364.out | refine below_set ?_ GE374.out) | exact HB.out)⟩
    · rw [if_neg c13] at H
      have c13b0 : (t365 == t367) = false := beq_eq_false_iff_ne.mpr c13
      have c13b1 : (t365 != t367) = true := bne_iff_ne.mpr c13
      obtain rfl := Option.some.inj H
      go_enter Try.func11, Try.ntmps11
      go_wp2_with (first | ((with_reducible refine gate_dst (N := 4) rfl ?_); refine box_event ?hg (N := 4) ?hd (cs := #[.int .i64 a0_0, .int .u32 a0_1, .int .u32 a0_2, .int .u32 a0_3, .bool a0_4]) (t := 24) ?hr ?_; (case hd => rfl); (case hg => rfl); (case hr => first | (go_simp; done) | (go_simp; rfl)); intro gb364 hg w73 hbox hb; have n0_ := Aside0.mk (below_step (by repeat (first | (with_reducible first | exact HB.out | apply below_alloc | apply pw_below_drewN | apply below_drew1) | exact HB.out)) hb); have n1_ := Aside0.mk (hbox); have n2_ := Aside0.mk ((by rw [hg]; exact (below_size (by repeat (first | (with_reducible first | exact HB.out | apply below_alloc | apply pw_below_drewN | apply below_drew1) | exact HB.out))) : w.heap.size ≤ gb364)); have n3_ := Aside0.mk ((by rw [hg]; exact (below_size (by repeat (first | (with_reducible first | exact HB.out | apply below_alloc | apply pw_below_drewN | apply below_drew1) | exact HB.out))) : w.heap.size ≤ gb364)); clear HB; have HB := n0_; have BK364 := n1_; have GW364 := n2_; have GE364 := n3_; clear n0_ n1_ n2_ n3_; clear hb hbox hg; have hcz74_0 : w73.cell? ⟨gb364, 0, none⟩ = some (.int .i64 a0_0) := (blk_cell BK364.out 0).trans rfl; have hcz74_1 : w73.cell? ⟨gb364, 1, none⟩ = some (.int .u32 a0_1) := (blk_cell BK364.out 1).trans rfl; have hcz74_2 : w73.cell? ⟨gb364, 2, none⟩ = some (.int .u32 a0_2) := (blk_cell BK364.out 2).trans rfl; have hcz74_3 : w73.cell? ⟨gb364, 3, none⟩ = some (.int .u32 a0_3) := (blk_cell BK364.out 3).trans rfl; have hcz74_4 : w73.cell? ⟨gb364, 4, none⟩ = some (.bool a0_4) := (blk_cell BK364.out 4).trans rfl; have hfz74_0 := blk_frozen BK364.out 0; have hfz74_1 := blk_frozen BK364.out 1; have hfz74_2 := blk_frozen BK364.out 2; have hfz74_3 := blk_frozen BK364.out 3; have hfz74_4 := blk_frozen BK364.out 4) | ((with_reducible refine gate_callee (f := 37) rfl ?_); refine goesL_ (some 24) rfl rfl Try.func37 (by kernel_rfl) rfl #[.agg #[.int .i64 a0_0, .int .u32 a0_1, .int .u32 a0_2, .int .u32 a0_3, .bool a0_4], .int .u32 a1, .int .u32 a2, .int .i64 a3] rfl (by (try simp only [List.map_toArray, List.map_cons, List.map_nil]); first | done | rfl | (simp only [List.length_drop, List.length_take]; rfl) | (simp [Act.eval, IntKind.wrap_u8, IntKind.wrap_u32]; done)) ?_; (with_reducible refine (crc_Join.calls k a0_0 a0_1 a0_2 a0_3 a0_4 a1 a2 a3 t365 t366 _ A5.out).mono ?_); rintro e w75 ⟨rfl, hb⟩; refine ⟨_, rfl, ?_⟩; have n0_ := Aside0.mk (blk_below (g := gb364) (o := .cells #[.int .i64 a0_0, .int .u32 a0_1, .int .u32 a0_2, .int .u32 a0_3, .bool a0_4] 24 (0, 0)) (by (with_reducible repeat (first | refine blk_drewN ?_ _ | refine blk_drew ?_ | refine blk_alloc ?_ _)); exact BK364.out) hb); have n1_ := Aside0.mk (below_step (by repeat (first | (with_reducible first | exact HB.out | apply below_alloc | apply pw_below_drewN | apply below_drew1 | refine below_set ?_ GE364.out) | exact HB.out)) hb); clear BK364; clear HB; have BK364 := n0_; have HB := n1_; clear n0_ n1_; (try clear hb); (try clear hb2); (try clear hk); (try clear hi); have hcz76_0 : w75.cell? ⟨gb364, 0, none⟩ = some (.int .i64 a0_0) := (blk_cell BK364.out 0).trans rfl; have hcz76_1 : w75.cell? ⟨gb364, 1, none⟩ = some (.int .u32 a0_1) := (blk_cell BK364.out 1).trans rfl; have hcz76_2 : w75.cell? ⟨gb364, 2, none⟩ = some (.int .u32 a0_2) := (blk_cell BK364.out 2).trans rfl; have hcz76_3 : w75.cell? ⟨gb364, 3, none⟩ = some (.int .u32 a0_3) := (blk_cell BK364.out 3).trans rfl; have hcz76_4 : w75.cell? ⟨gb364, 4, none⟩ = some (.bool a0_4) := (blk_cell BK364.out 4).trans rfl; have hfz76_0 := blk_frozen BK364.out 0; have hfz76_1 := blk_frozen BK364.out 1; have hfz76_2 := blk_frozen BK364.out 2; have hfz76_3 := blk_frozen BK364.out 3; have hfz76_4 := blk_frozen BK364.out 4) | ((with_reducible refine gate_callee (f := 38) rfl ?_); refine goesL_ (some 32) rfl rfl Try.func38 (by kernel_rfl) rfl #[.agg #[.int .i64 a0_0, .int .u32 a0_1, .int .u32 a0_2, .int .u32 a0_3, .bool a0_4], .int .u32 a1, .int .u32 a2, .int .i64 a3] rfl (by (try simp only [List.map_toArray, List.map_cons, List.map_nil]); first | done | rfl | (simp only [List.length_drop, List.length_take]; rfl) | (simp [Act.eval, IntKind.wrap_u8, IntKind.wrap_u32]; done)) ?_; (with_reducible refine (outpostref03_Join.calls k a0_0 a0_1 a0_2 a0_3 a0_4 a1 a2 a3 t367 t368 _ A6.out).mono ?_); rintro e w77 ⟨rfl, hb⟩; refine ⟨_, rfl, ?_⟩; have n0_ := Aside0.mk (blk_below (g := gb364) (o := .cells #[.int .i64 a0_0, .int .u32 a0_1, .int .u32 a0_2, .int .u32 a0_3, .bool a0_4] 24 (0, 0)) (by (with_reducible repeat (first | refine blk_drewN ?_ _ | refine blk_drew ?_ | refine blk_alloc ?_ _)); exact BK364.out) hb); have n1_ := Aside0.mk (below_step (by repeat (first | (with_reducible first | exact HB.out | apply below_alloc | apply pw_below_drewN | apply below_drew1 | refine below_set ?_ GE364.out) | exact HB.out)) hb); clear BK364; clear HB; have BK364 := n0_; have HB := n1_; clear n0_ n1_; (try clear hb); (try clear hb2); (try clear hk); (try clear hi); have hcz78_0 : w77.cell? ⟨gb364, 0, none⟩ = some (.int .i64 a0_0) := (blk_cell BK364.out 0).trans rfl; have hcz78_1 : w77.cell? ⟨gb364, 1, none⟩ = some (.int .u32 a0_1) := (blk_cell BK364.out 1).trans rfl; have hcz78_2 : w77.cell? ⟨gb364, 2, none⟩ = some (.int .u32 a0_2) := (blk_cell BK364.out 2).trans rfl; have hcz78_3 : w77.cell? ⟨gb364, 3, none⟩ = some (.int .u32 a0_3) := (blk_cell BK364.out 3).trans rfl; have hcz78_4 : w77.cell? ⟨gb364, 4, none⟩ = some (.bool a0_4) := (blk_cell BK364.out 4).trans rfl; have hfz78_0 := blk_frozen BK364.out 0; have hfz78_1 := blk_frozen BK364.out 1; have hfz78_2 := blk_frozen BK364.out 2; have hfz78_3 := blk_frozen BK364.out 3; have hfz78_4 := blk_frozen BK364.out 4) | ((with_reducible refine gate_callee (f := 19) rfl ?_); refine goesL_ (some 36) rfl rfl Try.func19 (by kernel_rfl) rfl #[.agg #[.int .i64 a0_0, .int .u32 a0_1, .int .u32 a0_2, .int .u32 a0_3, .bool a0_4]] rfl (by (try simp only [List.map_toArray, List.map_cons, List.map_nil]); first | done | rfl | (simp only [List.length_drop, List.length_take]; rfl) | (simp [Act.eval, IntKind.wrap_u8, IntKind.wrap_u32]; done)) ?_; (with_reducible refine (outpostlaw03_Good.calls a0_0 a0_1 a0_2 a0_3 a0_4 t369 t370 t371 t372 t373 _ A7.out).mono ?_); rintro e w79 ⟨rfl, hb⟩; refine ⟨_, rfl, ?_⟩; have n0_ := Aside0.mk (blk_below (g := gb364) (o := .cells #[.int .i64 a0_0, .int .u32 a0_1, .int .u32 a0_2, .int .u32 a0_3, .bool a0_4] 24 (0, 0)) (by (with_reducible repeat (first | refine blk_drewN ?_ _ | refine blk_drew ?_ | refine blk_alloc ?_ _)); exact BK364.out) hb); have n1_ := Aside0.mk (below_step (by repeat (first | (with_reducible first | exact HB.out | apply below_alloc | apply pw_below_drewN | apply below_drew1 | refine below_set ?_ GE364.out) | exact HB.out)) hb); clear BK364; clear HB; have BK364 := n0_; have HB := n1_; clear n0_ n1_; (try clear hb); (try clear hb2); (try clear hk); (try clear hi)) | ((with_reducible refine gate_dst (N := 13) rfl ?_); refine box_event ?hg (N := 13) ?hd (cs := #[.int .i64 0, .int .u32 0, .int .u32 0, .int .u32 0, .bool false]) (t := 24) ?hr ?_; (case hd => rfl); (case hg => rfl); (case hr => first | (go_simp; done) | (go_simp; rfl)); intro gb374 hg w80 hbox hb; have n0_ := Aside0.mk (blk_below (g := gb364) (o := .cells #[.int .i64 a0_0, .int .u32 a0_1, .int .u32 a0_2, .int .u32 a0_3, .bool a0_4] 24 (0, 0)) (by (with_reducible repeat (first | refine blk_drewN ?_ _ | refine blk_drew ?_ | refine blk_alloc ?_ _)); exact BK364.out) hb); have n1_ := Aside0.mk (below_step (by repeat (first | (with_reducible first | exact HB.out | apply below_alloc | apply pw_below_drewN | apply below_drew1 | refine below_set ?_ GE364.out) | exact HB.out)) hb); have n2_ := Aside0.mk (hbox); have n3_ := Aside0.mk ((by rw [hg]; exact (below_size (by repeat (first | (with_reducible first | exact HB.out | apply below_alloc | apply pw_below_drewN | apply below_drew1 | refine below_set ?_ GE364.out) | exact HB.out))) : w.heap.size ≤ gb374)); have n4_ := Aside0.mk ((by rw [hg]; exact (below_size (by repeat (first | (with_reducible first | exact HB.out | apply below_alloc | apply pw_below_drewN | apply below_drew1 | refine below_set ?_ GE364.out) | exact HB.out))) : w.heap.size ≤ gb374)); have n5_ := Aside0.mk ((by rw [hg]; exact Nat.ne_of_lt (blk_lt (g := gb364) (o := .cells #[.int .i64 a0_0, .int .u32 a0_1, .int .u32 a0_2, .int .u32 a0_3, .bool a0_4] 24 (0, 0)) (by (with_reducible repeat (first | refine blk_drewN ?_ _ | refine blk_drew ?_ | refine blk_alloc ?_ _)); exact BK364.out)) : gb364 ≠ gb374)); have n6_ := Aside0.mk ((by rw [hg]; exact Nat.ne_of_gt (blk_lt (g := gb364) (o := .cells #[.int .i64 a0_0, .int .u32 a0_1, .int .u32 a0_2, .int .u32 a0_3, .bool a0_4] 24 (0, 0)) (by (with_reducible repeat (first | refine blk_drewN ?_ _ | refine blk_drew ?_ | refine blk_alloc ?_ _)); exact BK364.out)) : gb374 ≠ gb364)); clear BK364; clear HB; have BK364 := n0_; have HB := n1_; have BK374 := n2_; have GW374 := n3_; have GE374 := n4_; have NB364_374 := n5_; have NB374_364 := n6_; clear n0_ n1_ n2_ n3_ n4_ n5_ n6_; clear hb hbox hg; have hnb81 := NB374_364.out; have hnc81 := NB364_374.out; have hcz82_0 : w80.cell? ⟨gb374, 0, none⟩ = some (.int .i64 0) := (blk_cell BK374.out 0).trans rfl; have hcz82_1 : w80.cell? ⟨gb374, 1, none⟩ = some (.int .u32 0) := (blk_cell BK374.out 1).trans rfl; have hcz82_2 : w80.cell? ⟨gb374, 2, none⟩ = some (.int .u32 0) := (blk_cell BK374.out 2).trans rfl; have hcz82_3 : w80.cell? ⟨gb374, 3, none⟩ = some (.int .u32 0) := (blk_cell BK374.out 3).trans rfl; have hcz82_4 : w80.cell? ⟨gb374, 4, none⟩ = some (.bool false) := (blk_cell BK374.out 4).trans rfl; have hfz82_0 := blk_frozen BK374.out 0; have hfz82_1 := blk_frozen BK374.out 1; have hfz82_2 := blk_frozen BK374.out 2; have hfz82_3 := blk_frozen BK374.out 3; have hfz82_4 := blk_frozen BK374.out 4) | ((with_reducible refine gate_callee (f := 37) rfl ?_); refine goesL_ (some 52) rfl rfl Try.func37 (by kernel_rfl) rfl #[.agg #[.int .i64 t369, .int .u32 t370, .int .u32 t371, .int .u32 t372, .bool t373], .int .u32 (Go.bits .and .u32 a1 ((IntKind.u64.wrap ((ji10) - 1)) % 4294967296)), .int .u32 (Go.bits .and .u32 a2 ((IntKind.u64.wrap ((ji10) - 1)) % 4294967296)), .int .i64 a3] rfl (by (try simp only [List.map_toArray, List.map_cons, List.map_nil]); first | done | (simp only [hji10]; rfl) | rfl | (simp only [List.length_drop, List.length_take]; rfl) | (simp [Act.eval, IntKind.wrap_u8, IntKind.wrap_u32]; done)) ?_; (with_reducible refine (crc_Join.calls k t369 t370 t371 t372 t373 (Go.bits .and .u32 a1 ((IntKind.u64.wrap ((ji10) - 1)) % 4294967296)) (Go.bits .and .u32 a2 ((IntKind.u64.wrap ((ji10) - 1)) % 4294967296)) a3 t375 t376 _ A11.out).mono ?_); rintro e w83 ⟨rfl, hb⟩; refine ⟨_, rfl, ?_⟩; have n0_ := Aside0.mk (blk_below (g := gb364) (o := .cells #[.int .i64 a0_0, .int .u32 a0_1, .int .u32 a0_2, .int .u32 a0_3, .bool a0_4] 24 (0, 0)) (by (with_reducible repeat (first | refine blk_drewN ?_ _ | refine blk_drew ?_ | refine blk_alloc ?_ _)); refine blk_far ?_ NB364_374.out _; (with_reducible repeat (first | refine blk_drewN ?_ _ | refine blk_drew ?_ | refine blk_alloc ?_ _)); refine blk_far ?_ NB364_374.out _; (with_reducible repeat (first | refine blk_drewN ?_ _ | refine blk_drew ?_ | refine blk_alloc ?_ _)); refine blk_far ?_ NB364_374.out _; (with_reducible repeat (first | refine blk_drewN ?_ _ | refine blk_drew ?_ | refine blk_alloc ?_ _)); refine blk_far ?_ NB364_374.out _; (with_reducible repeat (first | refine blk_drewN ?_ _ | refine blk_drew ?_ | refine blk_alloc ?_ _)); refine blk_far ?_ NB364_374.out _; (with_reducible repeat (first | refine blk_drewN ?_ _ | refine blk_drew ?_ | refine blk_alloc ?_ _)); exact BK364.out) hb); have n1_ := Aside0.mk (blk_below (g := gb374) (o := .cells #[.int .i64 t369, .int .u32 t370, .int .u32 t371, .int .u32 t372, .bool t373] 24 (0, 0)) (by (with_reducible repeat (first | refine blk_drewN ?_ _ | refine blk_drew ?_ | refine blk_alloc ?_ _)); refine blk_put (cs := #[.int .i64 t369, .int .u32 t370, .int .u32 t371, .int .u32 t372, .bool false]) ?_ 4 _ rfl; (with_reducible repeat (first | refine blk_drewN ?_ _ | refine blk_drew ?_ | refine blk_alloc ?_ _)); refine blk_put (cs := #[.int .i64 t369, .int .u32 t370, .int .u32 t371, .int .u32 0, .bool false]) ?_ 3 _ rfl; (with_reducible repeat (first | refine blk_drewN ?_ _ | refine blk_drew ?_ | refine blk_alloc ?_ _)); refine blk_put (cs := #[.int .i64 t369, .int .u32 t370, .int .u32 0, .int .u32 0, .bool false]) ?_ 2 _ rfl; (with_reducible repeat (first | refine blk_drewN ?_ _ | refine blk_drew ?_ | refine blk_alloc ?_ _)); refine blk_put (cs := #[.int .i64 t369, .int .u32 0, .int .u32 0, .int .u32 0, .bool false]) ?_ 1 _ rfl; (with_reducible repeat (first | refine blk_drewN ?_ _ | refine blk_drew ?_ | refine blk_alloc ?_ _)); refine blk_put (cs := #[.int .i64 0, .int .u32 0, .int .u32 0, .int .u32 0, .bool false]) ?_ 0 _ rfl; (with_reducible repeat (first | refine blk_drewN ?_ _ | refine blk_drew ?_ | refine blk_alloc ?_ _)); exact BK374.out) hb); have n2_ := Aside0.mk (below_step (by repeat (first | (with_reducible first | exact HB.out | apply below_alloc | apply pw_below_drewN | apply below_drew1 | refine below_set ?_ GE364.out | refine below_set ?_ GE374.out) | exact HB.out)) hb); clear BK364; clear BK374; clear HB; have BK364 := n0_; have BK374 := n1_; have HB := n2_; clear n0_ n1_ n2_; (try clear hb); (try clear hb2); (try clear hk); (try clear hi); have hcz84_0 : w83.cell? ⟨gb374, 0, none⟩ = some (.int .i64 t369) := (blk_cell BK374.out 0).trans rfl; have hcz84_1 : w83.cell? ⟨gb374, 1, none⟩ = some (.int .u32 t370) := (blk_cell BK374.out 1).trans rfl; have hcz84_2 : w83.cell? ⟨gb374, 2, none⟩ = some (.int .u32 t371) := (blk_cell BK374.out 2).trans rfl; have hcz84_3 : w83.cell? ⟨gb374, 3, none⟩ = some (.int .u32 t372) := (blk_cell BK374.out 3).trans rfl; have hcz84_4 : w83.cell? ⟨gb374, 4, none⟩ = some (.bool t373) := (blk_cell BK374.out 4).trans rfl; have hfz84_0 := blk_frozen BK374.out 0; have hfz84_1 := blk_frozen BK374.out 1; have hfz84_2 := blk_frozen BK374.out 2; have hfz84_3 := blk_frozen BK374.out 3; have hfz84_4 := blk_frozen BK374.out 4) | ((with_reducible refine gate_callee (f := 38) rfl ?_); refine goesL_ (some 64) rfl rfl Try.func38 (by kernel_rfl) rfl #[.agg #[.int .i64 t369, .int .u32 t370, .int .u32 t371, .int .u32 t372, .bool t373], .int .u32 (Go.bits .and .u32 a1 ((IntKind.u64.wrap ((ji10) - 1)) % 4294967296)), .int .u32 (Go.bits .and .u32 a2 ((IntKind.u64.wrap ((ji10) - 1)) % 4294967296)), .int .i64 a3] rfl (by (try simp only [List.map_toArray, List.map_cons, List.map_nil]); first | done | (simp only [hji10]; rfl) | rfl | (simp only [List.length_drop, List.length_take]; rfl) | (simp [Act.eval, IntKind.wrap_u8, IntKind.wrap_u32]; done)) ?_; (with_reducible refine (outpostref03_Join.calls k t369 t370 t371 t372 t373 (Go.bits .and .u32 a1 ((IntKind.u64.wrap ((ji10) - 1)) % 4294967296)) (Go.bits .and .u32 a2 ((IntKind.u64.wrap ((ji10) - 1)) % 4294967296)) a3 t377 t378 _ A12.out).mono ?_); rintro e w85 ⟨rfl, hb⟩; refine ⟨_, rfl, ?_⟩; have n0_ := Aside0.mk (blk_below (g := gb364) (o := .cells #[.int .i64 a0_0, .int .u32 a0_1, .int .u32 a0_2, .int .u32 a0_3, .bool a0_4] 24 (0, 0)) (by (with_reducible repeat (first | refine blk_drewN ?_ _ | refine blk_drew ?_ | refine blk_alloc ?_ _)); exact BK364.out) hb); have n1_ := Aside0.mk (blk_below (g := gb374) (o := .cells #[.int .i64 t369, .int .u32 t370, .int .u32 t371, .int .u32 t372, .bool t373] 24 (0, 0)) (by (with_reducible repeat (first | refine blk_drewN ?_ _ | refine blk_drew ?_ | refine blk_alloc ?_ _)); exact BK374.out) hb); have n2_ := Aside0.mk (below_step (by repeat (first | (with_reducible first | exact HB.out | apply below_alloc | apply pw_below_drewN | apply below_drew1 | refine below_set ?_ GE364.out | refine below_set ?_ GE374.out) | exact HB.out)) hb); clear BK364; clear BK374; clear HB; have BK364 := n0_; have BK374 := n1_; have HB := n2_; clear n0_ n1_ n2_; (try clear hb); (try clear hb2); (try clear hk); (try clear hi)))
      go_ret
      exact ⟨by first | rfl | (simp [errW_none, errW_some] <;> rfl) | (simp only [← hji8, ← hji10]; first | rfl | (simp [errW_none, errW_some] <;> rfl)) | (simp [*, errW_none, errW_some] <;> rfl), by repeat (first | (with_reducible first | exact HB.out | apply below_alloc | apply pw_below_drewN | apply below_drew1 | refine below_set ?_ GE364.out | refine below_set ?_ GE374.out) | exact HB.out)⟩
  · rw [if_neg c9] at H
    exact absurd H (by simp)

/-- THE ONE PURE STATEMENT of outpostlaw03_CrcJoins: yours. -/
def outpostlaw03_CrcJoins.Pure : Prop := ∀ (a0_0 : Int) (a0_1 : Int) (a0_2 : Int) (a0_3 : Int) (a0_4 : Bool) (a1 : Int) (a2 : Int) (a3 : Int), (Lit.int .i64 a0_0).wf = true → (Lit.int .u32 a0_1).wf = true → (Lit.int .u32 a0_2).wf = true → (Lit.int .u32 a0_3).wf = true → (Lit.int .u32 a1).wf = true → (Lit.int .u32 a2).wf = true → (Lit.int .i64 a3).wf = true → ∃ k, outpostlaw03_CrcJoins.f k a0_0 a0_1 a0_2 a0_3 a0_4 a1 a2 a3 = some true
theorem outpostlaw03_CrcJoins.walk (P : outpostlaw03_CrcJoins.Pure) (a0_0 : Int) (a0_1 : Int) (a0_2 : Int) (a0_3 : Int) (a0_4 : Bool) (a1 : Int) (a2 : Int) (a3 : Int) (w : World) (w0_0 : (Lit.int .i64 a0_0).wf = true) (w0_1 : (Lit.int .u32 a0_1).wf = true) (w0_2 : (Lit.int .u32 a0_2).wf = true) (w0_3 : (Lit.int .u32 a0_3).wf = true) (w1 : (Lit.int .u32 a1).wf = true) (w2 : (Lit.int .u32 a2).wf = true) (w3 : (Lit.int .i64 a3).wf = true) :
    Calls Try.prog 11 #[.agg #[.int .i64 a0_0, .int .u32 a0_1, .int .u32 a0_2, .int .u32 a0_3, .bool a0_4], .int .u32 a1, .int .u32 a2, .int .i64 a3] w fun e w' => e = .returned (.bool true) ∧ Below w.heap.size w w' := by
  obtain ⟨k, h⟩ := P a0_0 a0_1 a0_2 a0_3 a0_4 a1 a2 a3 w0_0 w0_1 w0_2 w0_3 w1 w2 w3
  refine (outpostlaw03_CrcJoins.calls k a0_0 a0_1 a0_2 a0_3 a0_4 a1 a2 a3 true w h).mono ?_
  rintro e w' ⟨rfl, hd⟩
  exact ⟨rfl, hd⟩

-- NOT PRINTED: function 12 (outpostlaw03_CrcTogether)

end Go.Proofs.Ytejlmodoghglbaa.P
