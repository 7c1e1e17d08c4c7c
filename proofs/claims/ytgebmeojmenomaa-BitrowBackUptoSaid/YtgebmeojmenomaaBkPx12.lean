-- written by mk.sh, a program of this session, over the kit's print
import Derived.Test.YtgebmeojmenomaaBkPx0
namespace Go.Proofs.Ytgebmeojmenomaa.P
open Go.RowKit Go.Proofs.YtgebmeojmenomaaW.PrintWords Go.Proofs.YtgebmeojmenomaaW.PrintLast Go.Proofs.YtgebmeojmenomaaW.PrintMore
attribute [local go_sem] max2_int min2_int max_two min_two max_three min_three max_four min_four   -- for this text's walks alone
set_option linter.unusedVariables false
set_option linter.unusedSimpArgs false

/-! ### bitrow_Weave: function 37 -/
mutual
def bitrow_Weave.l0 : Nat → List (List Int) → Int → List (List Int) → Int → Int → Option (List Int × Int)
  | 0, _, _, _, _, _ => none
  | k + 1, x0, x4, x18, x19, x20 => if x20 < x19 then (if 0 ≤ x20 then (if x20 < (x18.length : Int) then (if ((rd_L2 x18 x20).length : Int) = x4 then (bitrow_Weave.l0 k x0 x4 x18 x19 (wrap64 (x20 + 1))) else (some (([] : List Int), 5))) else (none)) else (none)) else (if 0 ≤ (wrap64 (x4 * (x0.length : Int))) then (if (wrap64 (x4 * (x0.length : Int)) : Int).toNat ≤ 281474976710656 then (bitrow_Weave.l1 k x0 (([] : List Int)) x4 0) else (none)) else (none))
def bitrow_Weave.l1 : Nat → List (List Int) → List Int → Int → Int → Option (List Int × Int)
  | 0, _, _, _, _ => none
  | k + 1, x0, x7, x34, x35 => if x35 < x34 then (bitrow_Weave.l2 k x0 x7 x35 x34 x35 x0 (x0.length : Int) 0) else (some (x7, 0))
def bitrow_Weave.l2 : Nat → List (List Int) → List Int → Int → Int → Int → List (List Int) → Int → Int → Option (List Int × Int)
  | 0, _, _, _, _, _, _, _, _ => none
  | k + 1, x0, x7, x8, x34, x35, x38, x39, x40 => if x40 < x39 then (if 0 ≤ x40 then (if x40 < (x38.length : Int) then (if 0 ≤ x8 then (if x8 < ((rd_L2 x38 x40).length : Int) then (if x7.length < 140737488355328 then (bitrow_Weave.l2 k x0 (x7 ++ [rd (rd_L2 x38 x40) x8]) x8 x34 x35 x38 x39 (wrap64 (x40 + 1))) else (none)) else (none)) else (none)) else (none)) else (none)) else (bitrow_Weave.l1 k x0 x7 x34 (wrap64 (x35 + 1)))
end
def bitrow_Weave.f (k : Nat) (l0 : List (List Int)) : Option (List Int × Int) := if (l0.length : Int) = 0 then (some (([] : List Int), 0)) else (if 0 < (l0.length : Int) then (bitrow_Weave.l0 k l0 ((rd_L2 l0 0).length : Int) l0 (l0.length : Int) 0) else (none))
theorem bitrow_Weave.mono_l : ∀ k, (∀ y0 y1 y2 y3 y4, LeO (bitrow_Weave.l0 k y0 y1 y2 y3 y4) (bitrow_Weave.l0 (k + 1) y0 y1 y2 y3 y4)) ∧ (∀ y0 y1 y2 y3, LeO (bitrow_Weave.l1 k y0 y1 y2 y3) (bitrow_Weave.l1 (k + 1) y0 y1 y2 y3)) ∧ (∀ y0 y1 y2 y3 y4 y5 y6 y7, LeO (bitrow_Weave.l2 k y0 y1 y2 y3 y4 y5 y6 y7) (bitrow_Weave.l2 (k + 1) y0 y1 y2 y3 y4 y5 y6 y7))
  | 0 => ⟨fun _ _ _ _ _ r h => by simp [bitrow_Weave.l0] at h, fun _ _ _ _ r h => by simp [bitrow_Weave.l1] at h, fun _ _ _ _ _ _ _ _ r h => by simp [bitrow_Weave.l2] at h⟩
  | k + 1 => by
    obtain ⟨ih0, ih1, ih2⟩ := bitrow_Weave.mono_l k
    refine ⟨?_, ?_, ?_⟩
    · intro y0 y1 y2 y3 y4
      unfold bitrow_Weave.l0
      repeat' first
      | (with_reducible exact ih0 _ _ _ _ _)
      | (with_reducible exact ih1 _ _ _ _)
      | (with_reducible exact ih2 _ _ _ _ _ _ _ _)
      | (with_reducible exact LeO.refl _)
      | (with_reducible exact LeO.none _)
      | (with_reducible refine LeO.ite ?_ ?_)
      | (with_reducible refine LeO.bind ?_ (fun _ => ?_))
      | exact ih0 _ _ _ _ _
      | exact ih1 _ _ _ _
      | exact ih2 _ _ _ _ _ _ _ _
      | exact LeO.none _
      | refine LeO.ite ?_ ?_
      | refine LeO.bind ?_ (fun _ => ?_)
    · intro y0 y1 y2 y3
      unfold bitrow_Weave.l1
      repeat' first
      | (with_reducible exact ih0 _ _ _ _ _)
      | (with_reducible exact ih1 _ _ _ _)
      | (with_reducible exact ih2 _ _ _ _ _ _ _ _)
      | (with_reducible exact LeO.refl _)
      | (with_reducible exact LeO.none _)
      | (with_reducible refine LeO.ite ?_ ?_)
      | (with_reducible refine LeO.bind ?_ (fun _ => ?_))
      | exact ih0 _ _ _ _ _
      | exact ih1 _ _ _ _
      | exact ih2 _ _ _ _ _ _ _ _
      | exact LeO.none _
      | refine LeO.ite ?_ ?_
      | refine LeO.bind ?_ (fun _ => ?_)
    · intro y0 y1 y2 y3 y4 y5 y6 y7
      unfold bitrow_Weave.l2
      repeat' first
      | (with_reducible exact ih0 _ _ _ _ _)
      | (with_reducible exact ih1 _ _ _ _)
      | (with_reducible exact ih2 _ _ _ _ _ _ _ _)
      | (with_reducible exact LeO.refl _)
      | (with_reducible exact LeO.none _)
      | (with_reducible refine LeO.ite ?_ ?_)
      | (with_reducible refine LeO.bind ?_ (fun _ => ?_))
      | exact ih0 _ _ _ _ _
      | exact ih1 _ _ _ _
      | exact ih2 _ _ _ _ _ _ _ _
      | exact LeO.none _
      | refine LeO.ite ?_ ?_
      | refine LeO.bind ?_ (fun _ => ?_)
theorem bitrow_Weave.mono : ∀ a0 k, LeO (bitrow_Weave.f k a0) (bitrow_Weave.f (k + 1) a0) := by
  intro a0 k
  obtain ⟨ih0, ih1, ih2⟩ := bitrow_Weave.mono_l k
  unfold bitrow_Weave.f
  repeat' first
      | (with_reducible exact ih0 _ _ _ _ _)
      | (with_reducible exact ih1 _ _ _ _)
      | (with_reducible exact ih2 _ _ _ _ _ _ _ _)
      | (with_reducible exact LeO.refl _)
      | (with_reducible exact LeO.none _)
      | (with_reducible refine LeO.ite ?_ ?_)
      | (with_reducible refine LeO.bind ?_ (fun _ => ?_))
      | exact ih0 _ _ _ _ _
      | exact ih1 _ _ _ _
      | exact ih2 _ _ _ _ _ _ _ _
      | exact LeO.none _
      | refine LeO.ite ?_ ?_
      | refine LeO.bind ?_ (fun _ => ?_)
set_option maxHeartbeats 8000000 in
set_option maxRecDepth 100000 in
theorem bitrow_Weave.calls (k : Nat) (A0 : Option Addr) (c0 : Nat) (l0 : List (List Int)) (r1 : List Int) (r2 : Int) (w : World) (hr0 : Kd.C (Kd.slice 5 (Kd.int .u8)) w A0 l0.length l0) (hc0 : l0.length ≤ c0) (h : bitrow_Weave.f k l0 = some (r1, r2)) :
    Calls Try.prog 37 #[.slice A0 l0.length c0] w fun e w' => ∃ v0_ : Value, e = .returned (.tuple #[v0_, .int .i64 r2]) ∧ Kd.R (Kd.int .u8) 5 w' w.heap.size (fun _ => True) v0_ r1 ∧ Below w.heap.size w w' := by
  have HR0 := Aside0.mk hr0
  have HC0 := Aside0.mk hc0
  clear hr0 hc0
  have HB := Aside0.mk (Below.refl w.heap.size w)
  have H : (if (l0.length : Int) = 0 then (some (([] : List Int), 0)) else (if 0 < (l0.length : Int) then (bitrow_Weave.l0 k l0 ((rd_L2 l0 0).length : Int) l0 (l0.length : Int) 0) else (none))) = some (r1, r2) := h
  clear h
  by_cases c2 : (l0.length : Int) = 0
  · rw [if_pos c2] at H
    have c2b0 : ((l0.length : Int) == 0) = true := beq_iff_eq.mpr c2
    have c2b1 : ((l0.length : Int) != 0) = false := bne_eq_false_iff_eq.mpr c2
    clear c2
    simp only [Option.some.injEq, Prod.mk.injEq] at H
    obtain ⟨rfl, rfl⟩ := H
    go_enter Try.func37, Try.ntmps37
    go_wp2
    go_ret2
    exact ⟨_, by first | rfl | (simp [errW_none, errW_some] <;> rfl) | (simp [*, errW_none, errW_some] <;> rfl), by first | exact Kd.R_nil _ _ _ _ _ | exact Kd.N_nil _ _ _ _ _ | exact Kd.V_nil _ _ _ _ _ | exact Kd.Q_nil _ _ _ _ _ | exact Kd.S_nil _ _ _ _ _, by repeat (first | (with_reducible first | exact HB.out | apply below_alloc | apply pw_below_drewN | apply below_drew1) | exact HB.out)⟩
  · rw [if_neg c2] at H
    have c2b0 : ((l0.length : Int) == 0) = false := beq_eq_false_iff_ne.mpr c2
    have c2b1 : ((l0.length : Int) != 0) = true := bne_iff_ne.mpr c2
    have c2b2 : ¬ (l0 = []) := fun h_ => c2 (by rw [h_]; rfl)
    by_cases c3 : 0 < (l0.length : Int)
    · rw [if_pos c3] at H
      have c3b0 : decide (0 < (l0.length : Int)) = true := decide_eq_true c3
      have c3b1 : decide (0 < l0.length) = true := decide_eq_true (by omega)
      clear c3
      have H' := Aside0.mk H
      clear H
      have p404 : 0 ≤ (0 : Int) := (by omega)
      have q404 : 0 < (l0.length : Int) := of_decide_eq_true (by first | (with_reducible assumption) | assumption)
      obtain ⟨ad404, A404_0, c404_0, e404, hx404_0, hl404_0, hi404_0⟩ := at_L2 HR0.out 0 p404 q404
      cases e404
      have qi404 : (0 < l0.length) = True := eq_true (by omega)
      (try rw [show ((0 : Int)).toNat = 0 from rfl] at hx404_0)
      (try rw [Addr.add_zero'] at hx404_0)
      have HR404_0 := Aside0.mk hi404_0
      have HC404_0 := Aside0.mk hl404_0
      clear hi404_0 hl404_0
      replace p404 := eq_true p404
      replace q404 := eq_true q404
      go_enter Try.func37, Try.ntmps37
      go_wp2
      go_loopg [20] k (fun kq v20 w' => ∃ (x20_1 : Int), v20 = .int .i64 x20_1 ∧ Aside0 (bitrow_Weave.l0 kq l0 ((rd_L2 l0 0).length : Int) l0 (l0.length : Int) x20_1 = some (r1, r2)) ∧ Aside0 (kq ≤ k) ∧ Aside0 (Below w.heap.size w w'))
      case atStart => exact ⟨(0), (by first | rfl | (simp; done) | (simp [*]; done) | (simp [wrap64]; done)), H', ⟨Nat.le_refl _⟩, ⟨by repeat (first | (with_reducible first | exact HB.out | apply below_alloc | apply pw_below_drewN | apply below_drew1) | exact HB.out)⟩⟩
      case round =>
        clear H'
        try clear c2
        try clear c2b0
        try clear c2b1
        try clear c2b2
        try clear p2
        try clear c3
        try clear c3b0
        try clear c3b1
        try clear hx404_0
        try clear p404
        try clear q404
        obtain ⟨x20_1, rfl, HA, HK1, HB⟩ := hrel
        cases gk with
        | zero => exact absurd HA.out (by simp [bitrow_Weave.l0])
        | succ k1 =>
          have H := HA.out
          clear HA
          simp only [bitrow_Weave.l0] at H
          by_cases c4 : x20_1 < (l0.length : Int)
          · rw [if_pos c4] at H
            have c4b0 : decide (x20_1 < (l0.length : Int)) = true := decide_eq_true c4
            clear c4
            by_cases c5 : 0 ≤ x20_1
            · rw [if_pos c5] at H
              have c5b0 : decide (0 ≤ x20_1) = true := decide_eq_true c5
              clear c5
              by_cases c6 : x20_1 < (l0.length : Int)
              · rw [if_pos c6] at H
                have c6b0 : decide (x20_1 < (l0.length : Int)) = true := decide_eq_true c6
                clear c6
                by_cases c7 : ((rd_L2 l0 x20_1).length : Int) = ((rd_L2 l0 0).length : Int)
                · rw [if_pos c7] at H
                  have c7b0 : (((rd_L2 l0 x20_1).length : Int) == ((rd_L2 l0 0).length : Int)) = true := beq_iff_eq.mpr c7
                  have c7b1 : (((rd_L2 l0 x20_1).length : Int) != ((rd_L2 l0 0).length : Int)) = false := bne_eq_false_iff_eq.mpr c7
                  have c7b2 : ((rd_L2 l0 x20_1).length == (rd_L2 l0 0).length) = true := by first | simpa using c7 | (simp at c7 ⊢; omega)
                  clear c7
                  have H' := Aside0.mk H
                  clear H
                  have p405 : 0 ≤ (x20_1 : Int) := of_decide_eq_true (by first | (with_reducible assumption) | assumption)
                  have q405 : x20_1 < (l0.length : Int) := of_decide_eq_true (by first | (with_reducible assumption) | assumption)
                  obtain ⟨ad405, A405_0, c405_0, e405, hx405_0, hl405_0, hi405_0⟩ := at_L2 HR0.out x20_1 p405 q405
                  obtain rfl : ad404 = ad405 := (by injection e405)
                  replace hx405_0 := (HB.out.cell (World.block_lt_of_cell? w _ hx405_0)).trans hx405_0
                  have HR405_0 := Aside0.mk hi405_0
                  have HC405_0 := Aside0.mk hl405_0
                  clear hi405_0 hl405_0
                  replace p405 := eq_true p405
                  replace q405 := eq_true q405
                  go_wp2
                  go_roundg k1
                  case measure => have := HK1.out; omega
                  case rel => exact ⟨(wrap64 (x20_1 + 1)), (by first | rfl | (simp; done) | (simp [*]; done) | (simp [wrap64]; done)), H', ⟨by have := HK1.out; omega⟩, ⟨by repeat (first | (with_reducible first | exact HB.out | apply below_alloc | apply pw_below_drewN | apply below_drew1) | exact HB.out)⟩⟩
                · rw [if_neg c7] at H
                  have c7b0 : (((rd_L2 l0 x20_1).length : Int) == ((rd_L2 l0 0).length : Int)) = false := beq_eq_false_iff_ne.mpr c7
                  have c7b1 : (((rd_L2 l0 x20_1).length : Int) != ((rd_L2 l0 0).length : Int)) = true := bne_iff_ne.mpr c7
                  have c7b2 : ((rd_L2 l0 x20_1).length == (rd_L2 l0 0).length) = false := by first | simpa using c7 | (simp at c7 ⊢; omega)
                  simp only [Option.some.injEq, Prod.mk.injEq] at H
                  obtain ⟨rfl, rfl⟩ := H
                  have p405 : 0 ≤ (x20_1 : Int) := of_decide_eq_true (by first | (with_reducible assumption) | assumption)
                  have q405 : x20_1 < (l0.length : Int) := of_decide_eq_true (by first | (with_reducible assumption) | assumption)
                  obtain ⟨ad405, A405_0, c405_0, e405, hx405_0, hl405_0, hi405_0⟩ := at_L2 HR0.out x20_1 p405 q405
                  obtain rfl : ad404 = ad405 := (by injection e405)
                  replace hx405_0 := (HB.out.cell (World.block_lt_of_cell? w _ hx405_0)).trans hx405_0
                  have HR405_0 := Aside0.mk hi405_0
                  have HC405_0 := Aside0.mk hl405_0
                  clear hi405_0 hl405_0
                  replace p405 := eq_true p405
                  replace q405 := eq_true q405
                  go_wp2
                  go_ret2
                  exact ⟨_, by first | rfl | (simp [errW_none, errW_some] <;> rfl) | (simp [*, errW_none, errW_some] <;> rfl), by first | exact Kd.R_nil _ _ _ _ _ | exact Kd.N_nil _ _ _ _ _ | exact Kd.V_nil _ _ _ _ _ | exact Kd.Q_nil _ _ _ _ _ | exact Kd.S_nil _ _ _ _ _, by repeat (first | (with_reducible first | exact HB.out | apply below_alloc | apply pw_below_drewN | apply below_drew1) | exact HB.out)⟩
              · rw [if_neg c6] at H
                exact absurd H (by simp)
            · rw [if_neg c5] at H
              exact absurd H (by simp)
          · rw [if_neg c4] at H
            have c4b0 : decide (x20_1 < (l0.length : Int)) = false := decide_eq_false c4
            clear c4
            obtain ⟨ji8, hji8⟩ : ∃ j_ : Int, (wrap64 (((rd_L2 l0 0).length : Int) * (l0.length : Int))) = j_ := ⟨_, rfl⟩
            replace H : (if 0 ≤ (ji8) then (if (ji8 : Int).toNat ≤ 281474976710656 then (bitrow_Weave.l1 k1 l0 (([] : List Int)) ((rd_L2 l0 0).length : Int) 0) else (none)) else (none)) = some (r1, r2) := by first | (rw [hji8] at H; exact H) | (simp only [hji8] at H ⊢; exact H)
            have hji8w : (IntKind.i64.wrap (((rd_L2 l0 0).length : Int) * (l0.length : Int))) = ji8 := (i64_w _).trans hji8
            by_cases c9 : 0 ≤ (ji8)
            · rw [if_pos c9] at H
              have c9b0 := eq_true c9
              have c9b1 : decide (0 ≤ (ji8)) = true := decide_eq_true c9
              clear c9
              by_cases c10 : (ji8 : Int).toNat ≤ 281474976710656
              · rw [if_pos c10] at H
                have c10b0 := eq_true c10
                have c10b1 : decide ((ji8 : Int).toNat ≤ 281474976710656) = true := decide_eq_true c10
                clear c10
                obtain ⟨y406, hy406⟩ : ∃ y_ : List Int, y_ = (([] : List Int)) := ⟨_, rfl⟩
                replace H : (bitrow_Weave.l1 k1 l0 y406 ((rd_L2 l0 0).length : Int) 0) = some (r1, r2) := by first | (rw [hy406]; with_reducible exact H) | (have H2_ := (Option.bind_some _ _).symm.trans H; rw [hy406]; with_reducible exact H2_) | (have H2_ := (Option.bind_some _ _).symm.trans H; with_reducible exact H2_) | with_reducible exact H | (rw [hy406]; exact H) | exact H
                have Ny406 := Aside0.mk hy406
                clear hy406
                have H' := Aside0.mk H
                clear H
                go_wp2_with (first | ((with_reducible refine gate_dst (N := 33) rfl ?_); refine Kd.R_make0 (Kd.int .u8) _ 5 rfl (N := 33) rfl 22 _ _ rfl ji8 rfl rfl Try.underlying22 (.int .u8 0) 1 info5 rfl (by omega) (ok := fun _ => True) (okp := fun _ => True) (fun _ hk => hk) trivial (of_decide_eq_true (by first | (with_reducible assumption) | assumption)) (Nat.le_trans (Nat.mul_le_mul_right _ (of_decide_eq_true (by first | (with_reducible assumption) | assumption) : ji8.toNat ≤ 281474976710656)) (by omega)) (Below.refl _ _) (Nat.le_refl _) ?_; intro v407 w11 ho12 hb hg_ hnew_; clear hg_ hnew_; (first | rw [← Ny406.out] at ho12 | (simp only [Int.reduceToNat] at ho12; rw [← Ny406.out] at ho12)); have n0_ := Aside0.mk (Kd.R_lower ho12 (below_size (by repeat (first | (with_reducible first | exact HB.out | apply below_alloc | apply pw_below_drewN | apply below_drew1) | exact HB.out)))); have n1_ := Aside0.mk (below_step (by repeat (first | (with_reducible first | exact HB.out | apply below_alloc | apply pw_below_drewN | apply below_drew1) | exact HB.out)) hb); clear HB; have HO408 := n0_; have HB := n1_; clear n0_ n1_; clear hb ho12))
                go_loopg [7, 35] k1 (fun kq v7 v35 w' => ∃ (x7_2 : List Int) (x35_2 : Int), v35 = .int .i64 x35_2 ∧ Aside0 (bitrow_Weave.l1 kq l0 x7_2 ((rd_L2 l0 0).length : Int) x35_2 = some (r1, r2)) ∧ Aside0 (kq ≤ k1) ∧ Aside0 (Kd.R (Kd.int .u8) 5 w' w.heap.size (fun _ => True) v7 x7_2) ∧ Aside0 (Below w.heap.size w w'))
                case atStart => exact ⟨(y406), (0), (by first | rfl | (simp; done) | (simp [*]; done) | (simp [wrap64]; done)), H', ⟨Nat.le_refl _⟩, ⟨by (with_reducible repeat (first | apply Kd.R_alloc | apply Kd.R_drewN | apply Kd.R_drew)); exact HO408.out⟩, ⟨by repeat (first | (with_reducible first | exact HB.out | apply below_alloc | apply pw_below_drewN | apply below_drew1) | exact HB.out)⟩⟩
                case round =>
                  clear H'
                  try clear c1
                  try clear c2
                  try clear c2b0
                  try clear c2b1
                  try clear c2b2
                  try clear p2
                  try clear c3
                  try clear c3b0
                  try clear c3b1
                  try clear c4
                  try clear c4b0
                  try clear p4
                  try clear q4
                  try clear hx4
                  try clear qi4
                  try clear c5
                  try clear c5b0
                  try clear c6
                  try clear c6b0
                  try clear p6
                  try clear c7
                  try clear c7b0
                  try clear c7b1
                  try clear c7b2
                  try clear c9
                  try clear c9b0
                  try clear c9b1
                  try clear c10
                  try clear c10b0
                  try clear c10b1
                  try clear hx404_0
                  try clear hx405_0
                  try clear p2
                  try clear p404
                  try clear p405
                  try clear q404
                  try clear q405
                  obtain ⟨x7_2, x35_2, rfl, HA, HK2, HO_7, HB⟩ := hrel
                  cases gk with
                  | zero => exact absurd HA.out (by simp [bitrow_Weave.l1])
                  | succ k2 =>
                    have H := HA.out
                    clear HA
                    simp only [bitrow_Weave.l1] at H
                    by_cases c13 : x35_2 < ((rd_L2 l0 0).length : Int)
                    · rw [if_pos c13] at H
                      have c13b0 : decide (x35_2 < ((rd_L2 l0 0).length : Int)) = true := decide_eq_true c13
                      clear c13
                      have H' := Aside0.mk H
                      clear H
                      go_wp2
                      go_loopg [7, 40] k2 (fun kq v7 v40 w' => ∃ (x7_3 : List Int) (x40_3 : Int), v40 = .int .i64 x40_3 ∧ Aside0 (bitrow_Weave.l2 kq l0 x7_3 x35_2 ((rd_L2 l0 0).length : Int) x35_2 l0 (l0.length : Int) x40_3 = some (r1, r2)) ∧ Aside0 (kq ≤ k2) ∧ Aside0 (Kd.R (Kd.int .u8) 5 w' w.heap.size (fun _ => True) v7 x7_3) ∧ Aside0 (Below w.heap.size w w'))
                      case atStart => exact ⟨(x7_2), (0), (by first | rfl | (simp; done) | (simp [*]; done) | (simp [wrap64]; done)), H', ⟨Nat.le_refl _⟩, ⟨by (with_reducible repeat (first | apply Kd.R_alloc | apply Kd.R_drewN | apply Kd.R_drew)); exact HO_7.out⟩, ⟨by repeat (first | (with_reducible first | exact HB.out | apply below_alloc | apply pw_below_drewN | apply below_drew1) | exact HB.out)⟩⟩
                      case round =>
                        clear H'
                        try clear c1
                        try clear c2
                        try clear c2b0
                        try clear c2b1
                        try clear c2b2
                        try clear p2
                        try clear c3
                        try clear c3b0
                        try clear c3b1
                        try clear c4
                        try clear c4b0
                        try clear p4
                        try clear q4
                        try clear hx4
                        try clear qi4
                        try clear c5
                        try clear c5b0
                        try clear c6
                        try clear c6b0
                        try clear p6
                        try clear c7
                        try clear c7b0
                        try clear c7b1
                        try clear c7b2
                        try clear c9
                        try clear c9b0
                        try clear c9b1
                        try clear c10
                        try clear c10b0
                        try clear c10b1
                        try clear c13
                        try clear c13b0
                        try clear hx404_0
                        try clear hx405_0
                        try clear p2
                        try clear p4
                        try clear p404
                        try clear p405
                        try clear p6
                        try clear q4
                        try clear q404
                        try clear q405
                        obtain ⟨x7_3, x40_3, rfl, HA, HK3, HO_7, HB⟩ := hrel
                        cases gk with
                        | zero => exact absurd HA.out (by simp [bitrow_Weave.l2])
                        | succ k3 =>
                          have H := HA.out
                          clear HA
                          simp only [bitrow_Weave.l2] at H
                          by_cases c14 : x40_3 < (l0.length : Int)
                          · rw [if_pos c14] at H
                            have c14b0 : decide (x40_3 < (l0.length : Int)) = true := decide_eq_true c14
                            clear c14
                            by_cases c15 : 0 ≤ x40_3
                            · rw [if_pos c15] at H
                              have c15b0 : decide (0 ≤ x40_3) = true := decide_eq_true c15
                              clear c15
                              by_cases c16 : x40_3 < (l0.length : Int)
                              · rw [if_pos c16] at H
                                have c16b0 : decide (x40_3 < (l0.length : Int)) = true := decide_eq_true c16
                                clear c16
                                by_cases c17 : 0 ≤ x35_2
                                · rw [if_pos c17] at H
                                  have c17b0 : decide (0 ≤ x35_2) = true := decide_eq_true c17
                                  clear c17
                                  by_cases c18 : x35_2 < ((rd_L2 l0 x40_3).length : Int)
                                  · rw [if_pos c18] at H
                                    have c18b0 : decide (x35_2 < ((rd_L2 l0 x40_3).length : Int)) = true := decide_eq_true c18
                                    clear c18
                                    by_cases c19 : x7_3.length < 140737488355328
                                    · rw [if_pos c19] at H
                                      have LMc19 := Aside0.mk c19
                                      clear c19
                                      obtain ⟨y411, hy411⟩ : ∃ y_ : List Int, y_ = (x7_3 ++ [rd (rd_L2 l0 x40_3) x35_2]) := ⟨_, rfl⟩
                                      replace H : (bitrow_Weave.l2 k3 l0 y411 x35_2 ((rd_L2 l0 0).length : Int) x35_2 l0 (l0.length : Int) (wrap64 (x40_3 + 1))) = some (r1, r2) := by first | (rw [hy411]; with_reducible exact H) | (have H2_ := (Option.bind_some _ _).symm.trans H; rw [hy411]; with_reducible exact H2_) | (have H2_ := (Option.bind_some _ _).symm.trans H; with_reducible exact H2_) | with_reducible exact H | (rw [hy411]; exact H) | exact H
                                      have Ny411 := Aside0.mk hy411
                                      clear hy411
                                      have H' := Aside0.mk H
                                      clear H
                                      have p409 : 0 ≤ (x40_3 : Int) := of_decide_eq_true (by first | (with_reducible assumption) | assumption)
                                      have q409 : x40_3 < (l0.length : Int) := of_decide_eq_true (by first | (with_reducible assumption) | assumption)
                                      obtain ⟨ad409, A409_0, c409_0, e409, hx409_0, hl409_0, hi409_0⟩ := at_L2 HR0.out x40_3 p409 q409
                                      obtain rfl : ad404 = ad409 := (by injection e409)
                                      replace hx409_0 := (HB.out.cell (World.block_lt_of_cell? w _ hx409_0)).trans hx409_0
                                      have HR409_0 := Aside0.mk hi409_0
                                      have HC409_0 := Aside0.mk hl409_0
                                      clear hi409_0 hl409_0
                                      replace p409 := eq_true p409
                                      replace q409 := eq_true q409
                                      have p410 : 0 ≤ (x35_2 : Int) := of_decide_eq_true (by first | (with_reducible assumption) | assumption)
                                      have q410 : x35_2 < ((rd_L2 l0 x40_3).length : Int) := of_decide_eq_true (by first | (with_reducible assumption) | assumption)
                                      obtain ⟨ad410, e410, hx410_0⟩ := Kd.at_int HR409_0.out x35_2 p410 q410
                                      cases e410
                                      replace hx410_0 := (HB.out.cell (World.block_lt_of_cell? w _ hx410_0)).trans hx410_0
                                      replace p410 := eq_true p410
                                      replace q410 := eq_true q410
                                      go_wp2_with (first | ((with_reducible refine gate_builtin (b := .append) (xs := #[.tmp 44, .tmp 49]) rfl ?_); at_builtin; refine Kd.R_append (Kd.int .u8) (w0 := w) w.heap.size rfl (.tmp 44) (.tmp 49) 22 5 (.int .u8 0) 1 rfl Try.underlying22 info5 rfl (by decide) (by omega) u7 x7_3 (rd (rd_L2 l0 x40_3) x35_2) [.int .u8 (rd (rd_L2 l0 x40_3) x35_2)] (fun _ => True) (fun _ => False) rfl rfl ?aP (fun _ hk => hk.elim) ?aF ?aO ?aB ?aS ?aL ?_; (case aP => exact rfl); (case aB => exact (by repeat (first | (with_reducible first | exact HB.out | apply below_alloc | apply pw_below_drewN | apply below_drew1) | exact HB.out))); (case aF => exact (fun _ _ => trivial)); (case aO => exact (by (with_reducible repeat (first | apply Kd.R_alloc | apply Kd.R_drewN | apply Kd.R_drew)); exact HO_7.out)); (case aS => exact (below_size (by repeat (first | (with_reducible first | exact HB.out | apply below_alloc | apply pw_below_drewN | apply below_drew1) | exact HB.out)))); (case aL => have := LMc19.out; omega); intro v412 w20 ho hb hg hat; rw [← Ny411.out] at ho; have n0_ := Aside0.mk (hb); have n1_ := Aside0.mk (ho); clear HB; clear HO_7; have HB := n0_; have HO413 := n1_; clear n0_ n1_; clear ho hb hg hat))
                                      go_roundg k3
                                      case measure => have := HK1.out; have := HK2.out; have := HK3.out; omega
                                      case rel => exact ⟨(y411), (wrap64 (x40_3 + 1)), (by first | rfl | (simp; done) | (simp [*]; done) | (simp [wrap64]; done)), H', ⟨by have := HK1.out; have := HK2.out; have := HK3.out; omega⟩, ⟨by (with_reducible repeat (first | apply Kd.R_alloc | apply Kd.R_drewN | apply Kd.R_drew)); exact HO413.out⟩, ⟨by repeat (first | (with_reducible first | exact HB.out | apply below_alloc | apply pw_below_drewN | apply below_drew1) | exact HB.out)⟩⟩
                                    · rw [if_neg c19] at H
                                      exact absurd H (by simp)
                                  · rw [if_neg c18] at H
                                    exact absurd H (by simp)
                                · rw [if_neg c17] at H
                                  exact absurd H (by simp)
                              · rw [if_neg c16] at H
                                exact absurd H (by simp)
                            · rw [if_neg c15] at H
                              exact absurd H (by simp)
                          · rw [if_neg c14] at H
                            have c14b0 : decide (x40_3 < (l0.length : Int)) = false := decide_eq_false c14
                            clear c14
                            have H' := Aside0.mk H
                            clear H
                            go_wp2
                            go_roundg k3
                            case measure => have := HK1.out; have := HK2.out; have := HK3.out; omega
                            case rel => exact ⟨(x7_3), (wrap64 (x35_2 + 1)), (by first | rfl | (simp; done) | (simp [*]; done) | (simp [wrap64]; done)), H', ⟨by have := HK1.out; have := HK2.out; have := HK3.out; omega⟩, ⟨by (with_reducible repeat (first | apply Kd.R_alloc | apply Kd.R_drewN | apply Kd.R_drew)); exact HO_7.out⟩, ⟨by repeat (first | (with_reducible first | exact HB.out | apply below_alloc | apply pw_below_drewN | apply below_drew1) | exact HB.out)⟩⟩
                    · rw [if_neg c13] at H
                      have c13b0 : decide (x35_2 < ((rd_L2 l0 0).length : Int)) = false := decide_eq_false c13
                      clear c13
                      simp only [Option.some.injEq, Prod.mk.injEq] at H
                      obtain ⟨rfl, rfl⟩ := H
                      go_wp2
                      go_ret2
                      exact ⟨_, by first | rfl | (simp [errW_none, errW_some] <;> rfl) | (simp only [← hji8]; first | rfl | (simp [errW_none, errW_some] <;> rfl)) | (simp [*, errW_none, errW_some] <;> rfl), by (with_reducible repeat (first | apply Kd.R_alloc | apply Kd.R_drewN | apply Kd.R_drew)); exact HO_7.out, by repeat (first | (with_reducible first | exact HB.out | apply below_alloc | apply pw_below_drewN | apply below_drew1) | exact HB.out)⟩
              · rw [if_neg c10] at H
                exact absurd H (by simp)
            · rw [if_neg c9] at H
              exact absurd H (by simp)
    · rw [if_neg c3] at H
      exact absurd H (by simp)

/-! ### bitrow_Unweave: function 38, given -/
/-- The rows that are handed back: row j begins at place j * each of the one array; -1: none yet. -/
def bitrow_unwE (g each : Nat) (j : Int) : Value := if j < 0 then .slice none 0 0 else .slice (some ⟨g, j.toNat * each, none⟩) each each
theorem bitrow_unwE_one (g each : Nat) (j : Int) : (bitrow_unwE g each j).oneCell' = true := by
  unfold bitrow_unwE
  split <;> rfl
theorem bitrow_unwE_nat (g each j : Nat) : bitrow_unwE g each (j : Int) = .slice (some ⟨g, j * each, none⟩) each each := by
  unfold bitrow_unwE
  rw [if_neg (by omega), Int.toNat_natCast]
theorem bitrow_unwE_none (g each : Nat) : [bitrow_unwE g each (-1)] = (Value.slice none 0 0).cells.toList := by
  unfold bitrow_unwE
  rw [if_pos (by decide)]
  rfl
def bitrow_unwK (g each : Nat) : Kd Int := Kd.scalar (bitrow_unwE g each) (bitrow_unwE_one g each)
/-- Row j of n rows. -/
def bitrow_unwRow (l0 : List Int) (n each j : Nat) : List Int := (List.range each).map fun k => l0.getD (k * n + j) 0
def bitrow_unwRows (l0 : List Int) (n each : Nat) : List (List Int) := (List.range n).map (bitrow_unwRow l0 n each)
theorem bitrow_add (g o t : Nat) : (⟨g, o, none⟩ : Addr).add t = ⟨g, o + t, none⟩ := by
  unfold Addr.add
  split <;> simp_all
theorem bitrow_unw_C {W : World} {base g go n each co1 co2 : Nat} {l0 cur js : List Int} {ok1 ok2 : Nat → Prop} (hl : cur.length = n * each) (hj : js.length = n) (hn : n ≤ 64) (he : each ≤ 281474976710656)
    (h1 : ∀ p, p < n * each → cur.getD p 0 = l0.getD ((p % each) * n + p / each) 0) (h2 : ∀ j, j < n → js.getD j 0 = (j : Int))
    (RA : Kd.R (Kd.int .u8) 5 W base ok1 (.slice (some ⟨g, 0, none⟩) (n * each) co1) cur) (RO : Kd.R (bitrow_unwK g each) 22 W base ok2 (.slice (some ⟨go, 0, none⟩) n co2) js) :
    Kd.C (Kd.slice 5 (Kd.int .u8)) W (some ⟨go, 0, none⟩) n (bitrow_unwRows l0 n each) := by
  refine ⟨by simp [bitrow_unwRows], by omega, fun _ => ⟨⟨go, 0, none⟩, rfl, fun j p hp => ?_⟩⟩
  obtain ⟨hjl, hp⟩ := List.getElem?_eq_some_iff.1 hp
  have hjn : j < n := by simpa [bitrow_unwRows] using hjl
  have hp2 : bitrow_unwRow l0 n each j = p := by simpa [bitrow_unwRows] using hp
  subst hp2
  have hc := (Kd.R_celln 0 RO (j : Int) (by omega) (by omega)).1
  rw [Int.toNat_natCast] at hc
  have e : rdOf 0 js (j : Int) = (j : Int) := by rw [rdOf, Int.toNat_natCast]; exact h2 j hjn
  rw [e, bitrow_unwE_nat] at hc
  refine ⟨[.slice (some ⟨g, j * each, none⟩) each each], rfl, ⟨some ⟨g, j * each, none⟩, each, by simp [bitrow_unwRow], by simp [bitrow_unwRow], ?_⟩, fun i u hu => ?_⟩
  · have hlen : (bitrow_unwRow l0 n each j).length = each := by simp [bitrow_unwRow]
    rw [hlen]
    refine Kd.C_of_reads (d := (0 : Int)) (h1 := fun _ => rfl) ⟨hlen, by omega, fun _ => ⟨_, rfl, fun t ht => ?_⟩⟩
    have hb : j * each + t < n * each := by
      have : (j + 1) * each ≤ n * each := Nat.mul_le_mul_right _ hjn
      rw [Nat.succ_mul] at this
      omega
    have hd := (Kd.R_celln 0 RA ((j * each + t : Nat) : Int) (by omega) (by omega)).1
    rw [Int.toNat_natCast] at hd
    have e2 : rdOf 0 cur ((j * each + t : Nat) : Int) = (bitrow_unwRow l0 n each j).getD t 0 := by
      rw [rdOf, Int.toNat_natCast, h1 _ hb, Nat.add_comm (j * each) t, Nat.add_mul_mod_self_right, Nat.mod_eq_of_lt (by omega), Nat.add_mul_div_right _ _ (by omega), Nat.div_eq_of_lt (by omega), Nat.zero_add]
      simp [bitrow_unwRow, show t < each by omega]
    rw [e2] at hd
    rw [bitrow_add]
    exact hd
  · rcases i with _ | i
    · simp at hu
      subst hu
      rw [bitrow_add, Nat.zero_add, Nat.add_zero, show j * (Kd.slice 5 (Kd.int .u8)).sz = j from Nat.mul_one j]
      exact hc
    · simp at hu
theorem run_slice_lhm {P : Program} (w : World) (t : TypeId) (a : Option Addr) (len cap : Nat) (ht : P.underlying t = some (.slice (P.elem t))) (kl kh km : IntKind) (l h m : Int) (h0 : 0 ≤ l) (h1 : l ≤ h) (h2 : h ≤ m) (h3 : m ≤ cap) :
    (Instr.slice t (.slice a len cap) (some (.int kl l)) (some (.int kh h)) (some (.int km m))).run P w =
      ((sizeOf (P.elem t)).run P w).andThen fun s w => .ok (sliced a l.toNat h.toNat m.toNat s) w := by
  have eh : (h.toNat : Int) = h := Int.toNat_of_nonneg (by omega)
  have em : (m.toNat : Int) = m := Int.toNat_of_nonneg (by omega)
  simp [Instr.slice, run_underlying ht, Instr.sliceBounds, run_sliceBound, sliced, *, (by omega : 0 ≤ l), (by omega : 0 ≤ h), (by omega : 0 ≤ m)]
/-- All that was laid stays; place i * each + k is laid. -/
theorem bitrow_unw_step {l0 cur : List Int} {n each i k : Nat} (hl : cur.length = n * each) (hi : i < n) (hk : k < each)
    (h : ∀ p, p < i * each + k → cur.getD p 0 = l0.getD ((p % each) * n + p / each) 0) :
    ∀ p, p < i * each + (k + 1) → (cur.set (i * each + k) (l0.getD (k * n + i) 0)).getD p 0 = l0.getD ((p % each) * n + p / each) 0 := by
  intro p hp
  have hb : i * each + k < n * each := by
    have : (i + 1) * each ≤ n * each := Nat.mul_le_mul_right _ hi
    rw [Nat.succ_mul] at this
    omega
  by_cases e : i * each + k = p
  · subst e
    rw [List.getD_eq_getElem?_getD, List.getElem?_set_self (by omega), Nat.add_comm (i * each) k, Nat.add_mul_mod_self_right, Nat.mod_eq_of_lt hk, Nat.add_mul_div_right _ _ (by omega), Nat.div_eq_of_lt hk, Nat.zero_add]
    rfl
  · rw [List.getD_eq_getElem?_getD, List.getElem?_set_ne e, ← List.getD_eq_getElem?_getD]
    exact h p (by omega)
theorem bitrow_w64 (m : Nat) (h : m ≤ 4611686018427387904) : wrap64 (m : Int) = (m : Int) := by
  unfold wrap64
  omega
theorem bitrow_mul64 (a b : Nat) (h : a * b ≤ 4611686018427387904) : wrap64 ((a : Int) * (b : Int)) = ((a * b : Nat) : Int) := by
  rw [← Int.natCast_mul, bitrow_w64 _ h]
theorem bitrow_add64 (a b : Nat) (h : a + b ≤ 4611686018427387904) : wrap64 ((a : Int) + (b : Int)) = ((a + b : Nat) : Int) := by
  rw [← Int.natCast_add, bitrow_w64 _ h]
def bitrow_Unweave.f (l0 : List Int) (a1 : Int) : Option (List (List Int) × Int) :=
  if a1 < 1 then some ([], 1) else if a1 > 64 then some ([], 1) else if l0.length ≤ 281474976710656 then
    (if l0.length % a1.toNat ≠ 0 then some ([], 5) else if l0.length = 0 then some (List.replicate a1.toNat [], 0) else some (bitrow_unwRows l0 a1.toNat (l0.length / a1.toNat), 0)) else none
set_option maxHeartbeats 8000000 in
set_option maxRecDepth 100000 in
theorem bitrow_Unweave.calls (A0 : Option Addr) (c0 : Nat) (l0 : List Int) (a1 : Int) (r1 : List (List Int)) (r2 : Int) (w : World) (hr0 : Kd.C (Kd.int .u8) w A0 l0.length l0) (hc0 : l0.length ≤ c0) (h : bitrow_Unweave.f l0 a1 = some (r1, r2)) :
    Calls Try.prog 38 #[.slice A0 l0.length c0, .int .i64 a1] w fun e w' => ∃ v0_ : Value, e = .returned (.tuple #[v0_, .int .i64 r2]) ∧ Kd.V (Kd.slice 5 (Kd.int .u8)) 22 w' w.heap.size (fun k_ => w.heap.size ≤ k_) v0_ r1 ∧ Below w.heap.size w w' := by
  have HR0 := Aside0.mk hr0
  clear hr0 hc0
  unfold bitrow_Unweave.f at h
  by_cases h1 : a1 < 1
  · rw [if_pos h1] at h
    have hb1 : decide (a1 < 1) = true := decide_eq_true h1
    simp only [Option.some.injEq, Prod.mk.injEq] at h
    obtain ⟨rfl, rfl⟩ := h
    clear h1
    go_enter Try.func38, Try.ntmps38
    go_wp2
    go_ret2
    exact ⟨_, rfl, Kd.V_nil _ _ _ _ _, Below.refl _ _⟩
  rw [if_neg h1] at h
  have hb1 : decide (a1 < 1) = false := decide_eq_false h1
  by_cases h2 : a1 > 64
  · rw [if_pos h2] at h
    have hb2 : decide (64 < a1) = true := decide_eq_true h2
    simp only [Option.some.injEq, Prod.mk.injEq] at h
    obtain ⟨rfl, rfl⟩ := h
    clear h1 h2
    go_enter Try.func38, Try.ntmps38
    go_wp2
    go_ret2
    exact ⟨_, rfl, Kd.V_nil _ _ _ _ _, Below.refl _ _⟩
  rw [if_neg h2] at h
  have hb2 : decide (64 < a1) = false := decide_eq_false h2
  by_cases h3' : ¬ l0.length ≤ 281474976710656
  · rw [if_neg h3'] at h
    exact absurd h (by simp)
  have h3 : l0.length ≤ 281474976710656 := by omega
  clear h3'
  rw [if_pos h3] at h
  obtain ⟨n, rfl⟩ : ∃ n : Nat, a1 = (n : Int) := ⟨a1.toNat, by omega⟩
  rw [Int.toNat_natCast] at h
  have hn0 : 0 < n := by omega
  have hn64 : n ≤ 64 := by omega
  have em : Int.tmod (l0.length : Int) (n : Int) = ((l0.length % n : Nat) : Int) := by rw [Int.tmod_eq_emod_of_nonneg (by omega)]; simp
  have hlm : l0.length % n < n := Nat.mod_lt _ hn0
  have hnz : ¬ ((n : Int) = 0) := by omega
  have hnz2 : ¬ (n = 0) := by omega
  by_cases h4 : l0.length % n ≠ 0
  · rw [if_pos h4] at h
    simp only [Option.some.injEq, Prod.mk.injEq] at h
    obtain ⟨rfl, rfl⟩ := h
    have t1 : ((l0.length : Int) % (n : Int) != 0) = true := by
      rw [bne_iff_ne, ← Int.natCast_emod]
      omega
    go_enter Try.func38, Try.ntmps38
    go_wp2
    go_ret2
    exact ⟨_, rfl, Kd.V_nil _ _ _ _ _, Below.refl _ _⟩
  have h4' : l0.length % n = 0 := by omega
  rw [if_neg h4] at h
  have t1 : ((l0.length : Int) % (n : Int) != 0) = false := by
    rw [← Int.natCast_emod, h4']
    rfl
  have HZ := Aside0.mk h4'
  clear em hlm h4 h4'
  by_cases h5 : l0.length = 0
  · rw [if_pos h5] at h
    simp only [Option.some.injEq, Prod.mk.injEq] at h
    obtain ⟨rfl, rfl⟩ := h
    have hnn : (0 : Int) ≤ (n : Int) := by omega
    go_enter Try.func38, Try.ntmps38
    go_wp2_with (first | ((with_reducible refine gate_dst (N := 27) rfl ?_); refine Kd.R_make (Kd.slice 5 (Kd.int .u8)) _ 22 rfl (N := 27) rfl 51 _ _ rfl (n : Int) rfl rfl Try.underlying51 (.slice none 0 0) 24 info22 rfl (by decide) (by omega) [] (ok := fun _ => True) (okp := fun _ => True) ⟨_, rfl, Kd.R_nil _ _ _ _ _⟩ (fun _ hk => hk) trivial hnn (by omega) (Below.refl _ _) (Nat.le_refl _) ?_; intro v220 w7 ho8 hb hg_ hnew_; clear hg_ hnew_; rw [Int.toNat_natCast] at ho8; have HO := Aside0.mk ho8; have HB := Aside0.mk hb; clear ho8 hb))
    go_ret2
    exact ⟨_, rfl, Kd.R_V (Kd.R_mono (Kd.R_bound HO.out) (fun k hk => hk.2.1)), HB.out⟩
  rw [if_neg h5] at h
  simp only [Option.some.injEq, Prod.mk.injEq] at h
  obtain ⟨rfl, rfl⟩ := h
  have HL := Aside0.mk h3
  have hl0 : (0 : Int) ≤ (l0.length : Int) := by omega
  have hnn : (0 : Int) ≤ (n : Int) := by omega
  have t2 : ((l0.length : Int) == 0) = false := beq_eq_false_iff_ne.2 (by omega)
  obtain ⟨each, he⟩ : ∃ each, each = l0.length / n := ⟨_, rfl⟩
  rw [← he]
  have hle : l0.length = n * each := by
    have := Nat.div_add_mod l0.length n
    rw [HZ.out, ← he] at this
    omega
  have hee : each ≤ l0.length := by rw [he]; exact Nat.div_le_self _ _
  have hev : wrap64 ((l0.length : Int) / (n : Int)) = (each : Int) := by
    have e1 : (l0.length : Int) / (n : Int) = (each : Int) := by rw [he]; simp
    rw [e1]
    unfold wrap64
    omega
  have HLE := Aside0.mk hle
  have HEE := Aside0.mk hee
  have HEV := Aside0.mk hev
  clear h3 he hle hee hev
  go_enter Try.func38, Try.ntmps38
  go_wp2_with (first | ((with_reducible refine gate_dst (N := 34) rfl ?_); refine Kd.R_make (Kd.int .u8) _ 5 rfl (N := 34) rfl 22 _ _ rfl (l0.length : Int) rfl rfl Try.underlying22 (.int .u8 0) 1 info5 rfl (by decide) (by omega) 0 (ok := fun _ => True) (okp := fun _ => True) rfl (fun _ hk => hk) trivial hl0 (by have := HL.out; omega) (Below.refl _ _) (Nat.le_refl _) ?_; intro v220 w7 ho8 hb hg_ hnew_; clear hg_ hnew_; rw [Int.toNat_natCast] at ho8; have HO := Aside0.mk ho8; have HB := Aside0.mk hb; clear ho8 hb; obtain ⟨g, cog, eo9, gb9, _, _, _⟩ := Kd.R_form HO.out (by rw [List.length_replicate]; omega); have hlr : (List.replicate l0.length (0 : Int)).length = l0.length := List.length_replicate; rw [hlr] at eo9; clear hlr; subst eo9; have GB9 := Aside0.mk gb9; clear gb9) | ((with_reducible refine gate_dst (N := 36) rfl ?_); refine Kd.R_make (bitrow_unwK g each) w.heap.size 22 rfl (N := 36) rfl 51 _ _ rfl (n : Int) rfl rfl Try.underlying51 (.slice none 0 0) 24 info22 rfl Nat.one_pos (by omega) (-1) (ok := fun _ => True) (okp := fun _ => True) (bitrow_unwE_none g each).symm (fun _ hk => hk) trivial hnn (by omega) HB.out HB.out.size ?_; intro v221 w8 ho9 hb1 hg_ hnew_; rw [Int.toNat_natCast] at ho9; have HO2 := Aside0.mk ho9; have n0_ := Aside0.mk (Kd.R_grown HO.out hg_ (fun _ _ => by simp)); have n1_ := Aside0.mk hb1; clear hg_ hnew_ HO HB; have HO := n0_; have HB := n1_; clear n0_ n1_ ho9 hb1; obtain ⟨go, cogo, eo9, gb9, _, _, _⟩ := Kd.R_form HO2.out (by rw [List.length_replicate]; omega); have hlr : (List.replicate n (-1 : Int)).length = n := List.length_replicate; rw [hlr] at eo9; clear hlr; subst eo9; have GB92 := Aside0.mk gb9; clear gb9))
  rw [HEV.out]
  have hel : Try.prog.elem 22 = 5 := by simp [Program.elem, Try.underlying22]
  have hcap : l0.length ≤ cog := (Kd.R_reads' HO.out).2.1
  have hlr : (List.replicate l0.length (0 : Int)).length = l0.length := List.length_replicate
  have hlr2 : (List.replicate n (-1 : Int)).length = n := List.length_replicate
  go_loopg [38] n (fun kq v38 w' => ∃ (i : Nat) (cur js : List Int), v38 = .int .i64 (i : Int) ∧ Aside0 (i + kq = n) ∧ Aside0 (cur.length = l0.length) ∧ Aside0 (js.length = n) ∧ Aside0 (∀ p, p < i * each → cur.getD p 0 = l0.getD ((p % each) * n + p / each) 0) ∧ Aside0 (∀ j, j < i → js.getD j 0 = (j : Int)) ∧ Aside0 (Kd.R (Kd.int .u8) 5 w' w.heap.size (fun _ => True) (.slice (some ⟨g, 0, none⟩) l0.length cog) cur) ∧ Aside0 (Kd.R (bitrow_unwK g each) 22 w' w.heap.size (fun _ => True) (.slice (some ⟨go, 0, none⟩) n cogo) js) ∧ Aside0 (Below w.heap.size w w'))
  case atStart => exact ⟨0, _, _, rfl, ⟨by omega⟩, ⟨hlr⟩, ⟨hlr2⟩, ⟨fun p hp => by omega⟩, ⟨fun j hj => by omega⟩, HO, HO2, HB⟩
  case round =>
    clear HO HO2 HB hlr hlr2
    obtain ⟨i, cur, js, rfl, HI, HN, HJ, HS, HT, HO, HO2, HB⟩ := hrel
    cases gk with
    | zero =>
      have hj : decide (i < n) = false := decide_eq_false (by have := HI.out; omega)
      have ei : i = n := by have := HI.out; omega
      subst ei
      have RV : Kd.V (Kd.slice 5 (Kd.int .u8)) 22 wr w.heap.size (fun k_ => w.heap.size ≤ k_) (.slice (some ⟨go, 0, none⟩) i cogo) (bitrow_unwRows l0 i each) := by
        have hl2 : (bitrow_unwRows l0 i each).length = i := by simp [bitrow_unwRows]
        have hc2 : i ≤ cogo := (Kd.R_reads' HO2.out).2.1
        have := Kd.V_mk (d := Kd.slice 5 (Kd.int .u8)) (e := 22) (W := wr) (base := w.heap.size) (ok := fun k_ => w.heap.size ≤ k_) (A := some ⟨go, 0, none⟩) (c := cogo) (xs := bitrow_unwRows l0 i each) (by rw [hl2]; exact hc2) (fun W' hW => by
          rw [hl2]
          have RA := Kd.R_step (Kd.R_bound HO.out) (fun k hk hlt => hW k hk.2.1 hlt)
          rw [HLE.out] at RA
          exact bitrow_unw_C (by rw [← HLE.out]; exact HN.out) HJ.out hn64 (by have := HEE.out; have := HL.out; omega) HS.out HT.out RA (Kd.R_step (Kd.R_bound HO2.out) (fun k hk hlt => hW k hk.2.1 hlt)))
        rw [hl2] at this
        exact this
      have HRV := Aside0.mk RV
      clear RV
      go_wp2
      go_ret2
      exact ⟨_, rfl, HRV.out, HB.out⟩
    | succ k1 =>
      have hin : i < n := by have := HI.out; omega
      have hj : decide (i < n) = true := decide_eq_true hin
      have b1 : (i + 1) * each ≤ n * each := Nat.mul_le_mul_right _ hin
      have b2 : i * each ≤ (i + 1) * each := Nat.mul_le_mul_right _ (Nat.le_succ _)
      have b3 := HLE.out
      have b4 := HL.out
      have q1 : (0 : Int) ≤ ((i * each : Nat) : Int) := by omega
      have q2 : ((i * each : Nat) : Int) ≤ (((i + 1) * each : Nat) : Int) := by omega
      have q3 : (((i + 1) * each : Nat) : Int) ≤ (((i + 1) * each : Nat) : Int) := by omega
      have q4 : (((i + 1) * each : Nat) : Int) ≤ (cog : Int) := by omega
      have q5 : (i + 1) * each - i * each = each := by rw [Nat.succ_mul]; omega
      have p1 : i * each ≤ 4611686018427387904 := by omega
      have p2 : (i + 1) * each ≤ 4611686018427387904 := by omega
      have p3 : i + 1 ≤ 4611686018427387904 := by omega
      have q6 : ¬ ((i + 1) * each = i * each) := by
        have he1 : each ≠ 0 := fun h0 => by
          rw [h0, Nat.mul_zero] at b3
          exact h5 b3
        rw [Nat.succ_mul]
        omega
      have m1 : wrap64 ((i : Int) * (each : Int)) = ((i * each : Nat) : Int) := bitrow_mul64 _ _ p1
      have m2 : wrap64 (wrap64 ((i : Int) + 1) * (each : Int)) = (((i + 1) * each : Nat) : Int) := by
        rw [show wrap64 ((i : Int) + 1) = ((i + 1 : Nat) : Int) from bitrow_add64 i 1 p3]
        exact bitrow_mul64 _ _ p2
      have hcut : ∀ W : World, (Instr.slice 22 (.slice (some ⟨g, 0, none⟩) l0.length cog) (some (.int .i64 (wrap64 ((i : Int) * (each : Int))))) (some (.int .i64 (wrap64 (wrap64 ((i : Int) + 1) * (each : Int))))) (some (.int .i64 (wrap64 (wrap64 ((i : Int) + 1) * (each : Int)))))).run Try.prog W = .ok (.slice (some ⟨g, i * each, none⟩) each each) W := by
        intro W
        have hu : Try.prog.underlying 22 = some (.slice (Try.prog.elem 22)) := by rw [hel]; exact Try.underlying22
        rw [m1, m2, run_slice_lhm W _ _ _ _ hu .i64 .i64 .i64 _ _ _ q1 q2 q3 q4, hel]
        obtain ⟨i06, hi06, _, hsz6, _⟩ := info_parts info5
        simp only [Int.toNat_natCast]
        simp [sizeOf, typeInfo, hi06, sliced, Result.andThen, hsz6, q5, q6, bitrow_add]
      clear b1 b2 b3 b4 m1 m2 q1 q2 q3 q4 q5 q6 p1 p2 p3
      have HIN := Aside0.mk hin
      clear hin
      go_wp2
      go_loopg [55] each (fun kq v55 w' => ∃ (k : Nat) (cur' : List Int), v55 = .int .i64 (k : Int) ∧ Aside0 (k + kq = each) ∧ Aside0 (cur'.length = l0.length) ∧ Aside0 (∀ p, p < i * each + k → cur'.getD p 0 = l0.getD ((p % each) * n + p / each) 0) ∧ Aside0 (Kd.R (Kd.int .u8) 5 w' w.heap.size (fun _ => True) (.slice (some ⟨g, 0, none⟩) l0.length cog) cur') ∧ Aside0 (Kd.R (bitrow_unwK g each) 22 w' w.heap.size (fun _ => True) (.slice (some ⟨go, 0, none⟩) n cogo) js) ∧ Aside0 (Below w.heap.size w w'))
      case atStart => exact ⟨0, cur, rfl, ⟨by omega⟩, HN, ⟨fun p hp => HS.out p (by omega)⟩, HO, HO2, HB⟩
      case round =>
        clear HO HO2 HB HS HN
        obtain ⟨k, cur', rfl, HK, HN, HS, HO, HO2, HB⟩ := hrel
        cases gk with
        | zero =>
          have hj : decide (k < each) = false := decide_eq_false (by have := HK.out; omega)
          have ek : k = each := by have := HK.out; omega
          have hin := HIN.out
          have ti : (i < n) = True := eq_true hin
          obtain ⟨hco, hfo⟩ := Kd.R_celln 0 HO2.out (i : Int) (by omega) (by omega)
          rw [Int.toNat_natCast] at hco hfo
          clear hin
          go_wp2
          go_roundg k1
          case measure => omega
          case rel =>
            have HON := HO2.out
            rw [← HJ.out] at HON
            obtain ⟨g', _, eo', _, _, cl', hgb⟩ := Kd.R_form HON (by have := HJ.out; have := HIN.out; omega)
            injection eo' with ea' _ _
            injection ea' with ea'
            injection ea' with ea'
            subst ea'
            have hp := Kd.R_putn HO2.out (i : Int) (i : Int)
            rw [Int.toNat_natCast, bitrow_unwE_nat] at hp
            have hp2 := Kd.R_set HO.out hgb (fun q hq => by simp [Kd.int, Kd.scalar] at hq; subst hq; decide) i (.slice (some ⟨g, i * each, none⟩) each each)
            have h1 : i + 1 ≤ 4611686018427387904 := by have := HIN.out; omega
            refine ⟨i + 1, cur', js.set i (i : Int), congrArg (Value.int .i64) (bitrow_add64 i 1 h1), ⟨by have := HI.out; omega⟩, HN, ⟨by rw [List.length_set]; exact HJ.out⟩, ⟨fun p hp3 => HS.out p (by rw [Nat.succ_mul] at hp3; omega)⟩, ⟨fun j hj3 => ?_⟩, ⟨hp2⟩, ⟨hp⟩, ⟨HB.out.setCell GB92.out _⟩⟩
            by_cases e : i = j
            · subst e
              rw [List.getD_eq_getElem?_getD, List.getElem?_set_self (by have := HJ.out; have := HIN.out; omega)]
              rfl
            · rw [List.getD_eq_getElem?_getD, List.getElem?_set_ne e, ← List.getD_eq_getElem?_getD]
              exact HT.out j (by omega)
        | succ k2 =>
          have hkk : k < each := by have := HK.out; omega
          have hin := HIN.out
          have b1 : (k + 1) * n ≤ each * n := Nat.mul_le_mul_right _ hkk
          have b3 := HLE.out
          have b4 := HL.out
          rw [Nat.succ_mul] at b1
          rw [Nat.mul_comm each n] at b1
          have p1 : k * n ≤ 4611686018427387904 := by omega
          have p2 : k * n + i ≤ 4611686018427387904 := by omega
          have p3 : k * n + i < l0.length := by omega
          have b5 : (i + 1) * each ≤ n * each := Nat.mul_le_mul_right _ hin
          rw [Nat.succ_mul] at b5
          have p4 : i * each + k < l0.length := by omega
          obtain ⟨kI, hkI⟩ : ∃ kI : Int, kI = (k : Int) := ⟨_, rfl⟩
          have hX : wrap64 (wrap64 (kI * (n : Int)) + (i : Int)) = ((k * n + i : Nat) : Int) := by
            rw [hkI, bitrow_mul64 _ _ p1, bitrow_add64 _ _ p2]
          have x0 : (0 : Int) ≤ wrap64 (wrap64 (kI * (n : Int)) + (i : Int)) := by rw [hX]; exact Int.natCast_nonneg _
          have x1 : wrap64 (wrap64 (kI * (n : Int)) + (i : Int)) < (l0.length : Int) := by rw [hX]; exact Int.ofNat_lt.2 p3
          obtain ⟨ad, ea, hx⟩ := Kd.at_int HR0.out _ x0 x1
          cases ea
          have hx0 := (HB.out.cell (World.block_lt_of_cell? w _ hx)).trans hx
          have hv : rd l0 (wrap64 (wrap64 (kI * (n : Int)) + (i : Int))) = l0.getD (k * n + i) 0 := by rw [hX]; rfl
          rw [hv] at hx0
          have tx0 := eq_true x0
          have tx1 := eq_true x1
          obtain ⟨hcg, hfg⟩ := Kd.R_celln 0 HO.out ((i * each + k : Nat) : Int) (Int.natCast_nonneg _) (Int.ofNat_lt.2 p4)
          have ek : kI.toNat = k := by rw [hkI, Int.toNat_natCast]
          rw [Int.toNat_natCast, ← ek] at hcg hfg
          have hj : decide (kI < (each : Int)) = true := decide_eq_true (by rw [hkI]; exact Int.ofNat_lt.2 hkk)
          have tk : (kI < (each : Int)) = True := eq_true (of_decide_eq_true hj)
          have tk0 : (0 ≤ kI) = True := eq_true (by rw [hkI]; exact Int.natCast_nonneg _)
          rw [← hkI]
          have HKI := Aside0.mk hkI
          have HEK := Aside0.mk ek
          have HP4 := Aside0.mk p4
          have HKK := Aside0.mk hkk
          clear hX x0 x1 hx hv b1 b3 b4 b5 p1 p2 p3 p4 hin hkk hkI ek
          go_wp2
          go_roundg k2
          case measure => omega
          case rel =>
            have hkI := HKI.out
            have hp := Kd.R_putn HO.out ((i * each + k : Nat) : Int) (l0.getD (k * n + i) 0)
            rw [Int.toNat_natCast] at hp
            rw [HEK.out]
            have HON := HO.out
            rw [← HN.out] at HON
            obtain ⟨g', _, eo', _, _, cl', hgb⟩ := Kd.R_form HON (by have := HN.out; have := HP4.out; omega)
            injection eo' with ea' _ _
            injection ea' with ea'
            injection ea' with ea'
            subst ea'
            have hp2 := Kd.R_set HO2.out hgb (fun q hq => by simp [bitrow_unwK, Kd.scalar] at hq; subst hq; decide) (i * each + k) (.int .u8 (l0.getD (k * n + i) 0))
            have hst := bitrow_unw_step (l0 := l0) (cur := cur') (n := n) (each := each) (i := i) (k := k) (by rw [HN.out]; exact HLE.out) HIN.out HKK.out HS.out
            have h1 : k + 1 ≤ 4611686018427387904 := by have := HKK.out; have := HEE.out; have := HL.out; omega
            have hw : wrap64 (kI + 1) = ((k + 1 : Nat) : Int) := by rw [hkI]; exact bitrow_add64 k 1 h1
            refine ⟨k + 1, cur'.set (i * each + k) (l0.getD (k * n + i) 0), congrArg (Value.int .i64) hw, ⟨?_⟩, ⟨by rw [List.length_set]; exact HN.out⟩, ⟨?_⟩, ⟨hp⟩, ⟨hp2⟩, ⟨HB.out.setCell GB9.out _⟩⟩
            · clear hw
              have := HK.out
              omega
            · exact hst

end Go.Proofs.Ytgebmeojmenomaa.P
