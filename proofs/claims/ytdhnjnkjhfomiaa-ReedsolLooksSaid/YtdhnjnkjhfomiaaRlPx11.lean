-- written by mk.sh, a program of this session, over the kit's print
import Derived.Test.YtdhnjnkjhfomiaaRlPx0
import Derived.Test.YtdhnjnkjhfomiaaRlPx10
namespace Go.Proofs.Ytdhnjnkjhfomiaa.P
open Go.RowKit Go.Proofs.YtdhnjnkjhfomiaaW.PrintWords Go.Proofs.YtdhnjnkjhfomiaaW.PrintLast Go.Proofs.YtdhnjnkjhfomiaaW.PrintMore
attribute [local go_sem] max2_int min2_int max_two min_two max_three min_three max_four min_four   -- for this text's walks alone
set_option linter.unusedVariables false
set_option linter.unusedSimpArgs false

mutual
def r4_syndromes.l0 : Nat → List Int → List Int → Int → Int → Int → Int → Int → Option (List Int)
 | 0, _, _, _, _, _, _, _ => none
 | k + 1, x1, x5, x6, x251000, x251001, x251002, x251003 => if x6 < x251003 then ((r4_power.f k x251000 x251001 (wrap64 (x251002 + x6))).bind fun t254 => (r4_syndromes.l1 k x1 x5 x6 t254 0 x251000 x251001 x251002 x251003)) else (some x5)
def r4_syndromes.l1 : Nat → List Int → List Int → Int → Int → Int → Int → Int → Int → Int → Option (List Int)
 | 0, _, _, _, _, _, _, _, _, _ => none
 | k + 1, x1, x5, x6, x7, x8, x251000, x251001, x251002, x251003 => if x8 < (x1.length : Int) then (if 0 ≤ x6 then (if x6 < (x5.length : Int) then ((r4_mul.f k x251000 x251001 (rd x5 x6) x7).bind fun t256 => (if 0 ≤ x8 then (r4_syndromes.l1 k x1 (x5.set (x6 : Int).toNat (Go.bits .xor .u8 t256 (rd x1 x8))) x6 x7 (wrap64 (x8 + 1)) x251000 x251001 x251002 x251003) else (none))) else (none)) else (none)) else (r4_syndromes.l0 k x1 x5 (wrap64 (x6 + 1)) x251000 x251001 x251002 x251003)
end
def r4_syndromes.f (k : Nat) (a0_0 : Int) (a0_1 : Int) (a0_2 : Int) (a0_3 : Int) (l1 : List Int) : Option (List Int) := if 0 ≤ a0_3 then (if (a0_3 : Int).toNat ≤ 281474976710656 then (r4_syndromes.l0 k l1 (List.replicate (a0_3 : Int).toNat 0) 0 a0_0 a0_1 a0_2 a0_3) else (none)) else (none)
theorem r4_syndromes.mono_l : ∀ k, (∀ y0 y1 y2 y3 y4 y5 y6, LeO (r4_syndromes.l0 k y0 y1 y2 y3 y4 y5 y6) (r4_syndromes.l0 (k + 1) y0 y1 y2 y3 y4 y5 y6)) ∧ (∀ y0 y1 y2 y3 y4 y5 y6 y7 y8, LeO (r4_syndromes.l1 k y0 y1 y2 y3 y4 y5 y6 y7 y8) (r4_syndromes.l1 (k + 1) y0 y1 y2 y3 y4 y5 y6 y7 y8))
 | 0 => ⟨fun _ _ _ _ _ _ _ r h => by simp [r4_syndromes.l0] at h, fun _ _ _ _ _ _ _ _ _ r h => by simp [r4_syndromes.l1] at h⟩
 | k + 1 => by
  obtain ⟨ih0, ih1⟩ := r4_syndromes.mono_l k
  refine ⟨?_, ?_⟩
  ·intro y0 y1 y2 y3 y4 y5 y6
   unfold r4_syndromes.l0
   repeat' first
   | (with_reducible exact ih0 _ _ _ _ _ _ _)
   | (with_reducible exact ih1 _ _ _ _ _ _ _ _ _)
   | (with_reducible exact r4_mul.mono _ _ _ _ _)
   | (with_reducible exact r4_power.mono _ _ _ _)
   | (with_reducible exact LeO.refl _)
   | (with_reducible exact LeO.none _)
   | (with_reducible refine LeO.ite ?_ ?_)
   | (with_reducible refine LeO.bind ?_ (fun _ => ?_))
  ·intro y0 y1 y2 y3 y4 y5 y6 y7 y8
   unfold r4_syndromes.l1
   repeat' first
   | (with_reducible exact ih0 _ _ _ _ _ _ _)
   | (with_reducible exact ih1 _ _ _ _ _ _ _ _ _)
   | (with_reducible exact r4_mul.mono _ _ _ _ _)
   | (with_reducible exact r4_power.mono _ _ _ _)
   | (with_reducible exact LeO.refl _)
   | (with_reducible exact LeO.none _)
   | (with_reducible refine LeO.ite ?_ ?_)
   | (with_reducible refine LeO.bind ?_ (fun _ => ?_))
theorem r4_syndromes.mono : ∀ a0 a1 a2 a3 a4 k, LeO (r4_syndromes.f k a0 a1 a2 a3 a4) (r4_syndromes.f (k + 1) a0 a1 a2 a3 a4) := by
 intro a0 a1 a2 a3 a4 k
 obtain ⟨ih0, ih1⟩ := r4_syndromes.mono_l k
 unfold r4_syndromes.f
 repeat' first
   | (with_reducible exact ih0 _ _ _ _ _ _ _)
   | (with_reducible exact ih1 _ _ _ _ _ _ _ _ _)
   | (with_reducible exact r4_mul.mono _ _ _ _ _)
   | (with_reducible exact r4_power.mono _ _ _ _)
   | (with_reducible exact LeO.refl _)
   | (with_reducible exact LeO.none _)
   | (with_reducible refine LeO.ite ?_ ?_)
   | (with_reducible refine LeO.bind ?_ (fun _ => ?_))
def r4_syndromes.T9 : Bool × List (List Nat × List Nat) := (true, [([], []), ([], []), ([], []), ([2], [2]), ([], []), ([], []), ([4, 5], [4, 5]), ([6], [6]), ([], []), ([3, 7, 8], [3, 7, 8]), ([], []), ([], []), ([10, 11], [10, 11]), ([12], [12]), ([9, 13], [9, 13]), ([0, 1, 0, 1, 2, 3, 4, 5, 6, 7, 8, 9, 10, 11, 12, 13, 14], [0, 1]), ([15, 14, 9, 0, 1, 2, 3, 4, 5, 6, 7, 8, 9, 10, 11, 12, 13, 14], [14, 15])])
def r4_syndromes.B9 : List Nat := [0, 0, 0, 4, 0, 0, 48, 112, 0, 508, 0, 0, 3072, 7168, 16380, 32767, 65535]
theorem r4_syndromes.tab9 : rtab .any (opsOf Try.f31 9) = r4_syndromes.T9 := by kernel_rfl
theorem r4_syndromes.bits9 : waitsOk r4_syndromes.T9.2 r4_syndromes.B9 = true := by kernel_rfl
set_option maxHeartbeats 8000000 in
set_option maxRecDepth 100000 in
theorem r4_syndromes.calls (k : Nat) (a0_0 : Int) (a0_1 : Int) (a0_2 : Int) (a0_3 : Int) (A1 : Option Addr) (c1 : Nat) (l1 : List Int) (r : List Int) (w : World) (hr1 : Kd.C (Kd.int .u8) w A1 l1.length l1) (hc1 : l1.length ≤ c1) (h : r4_syndromes.f k a0_0 a0_1 a0_2 a0_3 l1 = some r) :
  Calls Try.prog 31 #[.agg #[.int .i64 a0_0, .int .u64 a0_1, .int .i64 a0_2, .int .i64 a0_3], .slice A1 l1.length c1] w fun e w' => ∃ v0_ : Value, e = .returned (v0_) ∧ Kd.R (Kd.int .u8) 5 w' w.heap.size (fun _ => True) v0_ r ∧ Below w.heap.size w w' := by
 have hu26 := Try.underlying26
 have hu24 := Try.underlying24
 have HR1 := Aside0.mk hr1
 have HC1 := Aside0.mk hc1
 clear hr1 hc1
 have HB := aK (Below.refl w.heap.size w)
 have H : (if 0 ≤ a0_3 then (if (a0_3 : Int).toNat ≤ 281474976710656 then (r4_syndromes.l0 k l1 (List.replicate (a0_3 : Int).toNat 0) 0 a0_0 a0_1 a0_2 a0_3) else (none)) else (none)) = some r := h
 clear h
 by_cases c3 : 0 ≤ a0_3
 rotate_left
 ·rw [if_neg c3] at H
  exact absurd H (by simp)

 rw [if_pos c3] at H
 have c3b0 := eq_true c3
 have c3b1 : decide (0 ≤ a0_3) = true := decide_eq_true c3
 clear c3
 by_cases c4 : (a0_3 : Int).toNat ≤ 281474976710656
 rotate_left
 ·rw [if_neg c4] at H
  exact absurd H (by simp)
 rw [if_pos c4] at H
 have c4b0 := eq_true c4
 have c4b1 : decide ((a0_3 : Int).toNat ≤ 281474976710656) = true := decide_eq_true c4
 clear c4
 obtain ⟨y251, hy251⟩ : ∃ y_ : List Int, y_ = (List.replicate (a0_3 : Int).toNat 0) := ⟨_, rfl⟩
 replace H : (r4_syndromes.l0 k l1 y251 0 a0_0 a0_1 a0_2 a0_3) = some r := by rw [hy251]; exact H
 have Ny251 := Aside0.mk hy251
 clear hy251
 have H' := Aside0.mk H
 clear H
 go_enter Try.func31, Try.ntmps31
 go_wp2_with (first | ((with_reducible refine gate_dst (N := 2) rfl ?_); refine box_event ?hg (N := 2) ?hd (cs := #[.int .i64 a0_0, .int .u64 a0_1, .int .i64 a0_2, .int .i64 a0_3]) (t := 26) ?hr ?_; (case hd => rfl); (case hg => rfl); (case hr => first | (go_simp; done) | (go_simp; rfl)); intro gb250 hg w5 hbox hb; have n0_ := aK (below_step (mvh HB.out) hb); have n1_ := aK (hbox); have n2_ := aK ((by rw [hg]; exact (below_size (mvh HB.out)) : w.heap.size ≤ gb250)); have n3_ := aK ((by rw [hg]; exact (below_size (mvh HB.out)) : w.heap.size ≤ gb250)); clear HB; have HB := n0_; have BK250 := n1_; have GW250 := n2_; have GE250 := n3_; clear n0_ n1_ n2_ n3_; clear hb hbox hg; obtain ⟨hcz6_0, hcz6_1, hcz6_2, hcz6_3, hfz6_0, hfz6_1, hfz6_2, hfz6_3⟩ := cf4 BK250.out) | ((with_reducible refine gate_dst (N := 11) rfl ?_); refine Kd.R_make (Kd.int .u8) _ 5 rfl (N := 11) rfl 27 _ _ rfl a0_3 rfl rfl Try.underlying27 (.int .u8 0) 1 info5 rfl (by decide) (by omega) 0 (ok := fun _ => True) (okp := fun _ => True) rfl (fun _ hk => hk) trivial (of_decide_eq_true (by first | (with_reducible assumption) | assumption)) (Nat.le_trans (Nat.mul_le_mul_right _ (of_decide_eq_true (by first | (with_reducible assumption) | assumption) : a0_3.toNat ≤ 281474976710656)) (by omega)) (Below.refl _ _) (Nat.le_refl _) ?_; intro v252 w7 ho8 hb hg_ hnew_; clear hg_ hnew_; (first | rw [← Ny251.out] at ho8 | (simp only [Int.reduceToNat] at ho8; rw [← Ny251.out] at ho8)); have n0_ := aK (Kd.R_lower ho8 (below_size (mvh HB.out))); have n1_ := aK (kb BK250.out hb); have n2_ := aK (below_step (mvh HB.out) hb); clear BK250 HB; have HO253 := n0_; have BK250 := n1_; have HB := n2_; clear n0_ n1_ n2_; clear hb ho8))
 go_loopg [6] k (fun kq v6 w' => ∃ (x5_1 : List Int) (x6_1 : Int), v6 = .int .i64 x6_1 ∧ Aside0 (r4_syndromes.l0 kq l1 x5_1 x6_1 a0_0 a0_1 a0_2 a0_3 = some r) ∧ Aside0 (kq ≤ k) ∧ Aside0 (Kd.R (Kd.int .u8) 5 w' w.heap.size (fun _ => True) v252 x5_1) ∧ Aside0 (w'.heap[gb250]? = some (.cells #[.int .i64 a0_0, .int .u64 a0_1, .int .i64 a0_2, .int .i64 a0_3] 26 (0, 0))) ∧ Aside0 (Below w.heap.size w w'))
 case atStart => exact ⟨(y251), (0), (by first | rfl | (simp; done) | (simp [*]; done) | (simp [wrap64]; done)), H', ⟨Nat.le_refl _⟩, ⟨mvR HO253.out⟩, ⟨mvb BK250.out⟩, ⟨mvh HB.out⟩⟩
 case round =>
  clear H'
  (try clear c1); (try clear p2); (try clear c3); (try clear c3b0); (try clear c3b1); (try clear c4); (try clear c4b0); (try clear c4b1); (try clear p6); (try clear hcz6_0); (try clear hcz6_1); (try clear hcz6_2); (try clear hcz6_3); (try clear hfz6_0); (try clear hfz6_1); (try clear hfz6_2); (try clear hfz6_3)
  obtain ⟨x5_1, x6_1, rfl, HA, HK1, HO_5, BK250, HB⟩ := hrel
  cases gk with
  | zero => exact absurd HA.out (by simp [r4_syndromes.l0])
  | succ k1 =>
   have H := HA.out
   clear HA
   simp only [r4_syndromes.l0] at H
   by_cases c9 : x6_1 < a0_3
   rotate_left
   ·rw [if_neg c9] at H
    have c9b0 : decide (x6_1 < a0_3) = false := decide_eq_false c9
    clear c9
    obtain rfl := Option.some.inj H
    obtain ⟨hcz23_0, hcz23_1, hcz23_2, hcz23_3, hfz23_0, hfz23_1, hfz23_2, hfz23_3⟩ := cf4 BK250.out
    go_wp2
    go_ret
    exact ⟨_, by first | rfl | (simp [errW_none, errW_some] <;> rfl) | (simp [*, errW_none, errW_some] <;> rfl), by (with_reducible repeat (first | apply Kd.R_alloc | apply Kd.R_drewN | apply Kd.R_drew)); exact HO_5.out, mvh HB.out⟩
   rw [if_pos c9] at H
   have c9b0 : decide (x6_1 < a0_3) = true := decide_eq_true c9
   clear c9
   replace H := Option.bind_eq_some_iff.mp H
   obtain ⟨t254, A100, H⟩ := H
   try dsimp only at H
   have A10 := Aside0.mk A100
   clear A100
   have H' := Aside0.mk H
   clear H
   obtain ⟨hcz11_0, hcz11_1, hcz11_2, hcz11_3, hfz11_0, hfz11_1, hfz11_2, hfz11_3⟩ := cf4 BK250.out
   go_wp2_with (first | (go_at_call 36; (with_reducible refine (r4_power.calls k1 a0_0 a0_1 (wrap64 (a0_2 + x6_1)) t254 _ A10.out).mono ?_); rintro e w12 ⟨rfl, hb⟩; have n0_ := aK (Kd.R_below (mvR HO_5.out) hb); have n1_ := aK (kb BK250.out hb); have n2_ := aK (below_step (mvh HB.out) hb); clear HO_5 BK250 HB; have HO_5 := n0_; have BK250 := n1_; have HB := n2_; clear n0_ n1_ n2_; (try clear hb)))
   go_loopg [8] k1 (fun kq v8 w' => ∃ (x5_2 : List Int) (x8_2 : Int), v8 = .int .i64 x8_2 ∧ Aside0 (r4_syndromes.l1 kq l1 x5_2 x6_1 t254 x8_2 a0_0 a0_1 a0_2 a0_3 = some r) ∧ Aside0 (kq ≤ k1) ∧ Aside0 (Kd.R (Kd.int .u8) 5 w' w.heap.size (fun _ => True) v252 x5_2) ∧ Aside0 (w'.heap[gb250]? = some (.cells #[.int .i64 a0_0, .int .u64 a0_1, .int .i64 a0_2, .int .i64 a0_3] 26 (0, 0))) ∧ Aside0 (Below w.heap.size w w'))
   case atStart => exact ⟨(x5_1), (0), (by first | rfl | (simp; done) | (simp [*]; done) | (simp [wrap64]; done)), H', ⟨Nat.le_refl _⟩, ⟨mvR HO_5.out⟩, ⟨mvb BK250.out⟩, ⟨mvh HB.out⟩⟩
   case round =>
    clear H'
    (try clear c1); (try clear p2); (try clear c3); (try clear c3b0); (try clear c3b1); (try clear c4); (try clear c4b0); (try clear c4b1); (try clear p6); (try clear c9); (try clear c9b0); (try clear hcz11_0); (try clear hcz11_1); (try clear hcz11_2); (try clear hcz11_3); (try clear hcz6_0); (try clear hcz6_1)
    (try clear hcz6_2); (try clear hcz6_3); (try clear hfz11_0); (try clear hfz11_1); (try clear hfz11_2); (try clear hfz11_3); (try clear hfz6_0); (try clear hfz6_1); (try clear hfz6_2); (try clear hfz6_3); (try clear p2); (try clear p6)
    obtain ⟨x5_2, x8_2, rfl, HA, HK2, HO_5, BK250, HB⟩ := hrel
    cases gk with
    | zero => exact absurd HA.out (by simp [r4_syndromes.l1])
    | succ k2 =>
     have H := HA.out
     clear HA
     simp only [r4_syndromes.l1] at H
     by_cases c13 : x8_2 < (l1.length : Int)
     rotate_left
     ·rw [if_neg c13] at H
      have c13b0 : decide (x8_2 < (l1.length : Int)) = false := decide_eq_false c13
      clear c13
      have H' := Aside0.mk H
      clear H
      go_wp2
      go_roundg k2
      case measure => have := HK1.out; have := HK2.out; omega
      case rel => exact ⟨(x5_2), (wrap64 (x6_1 + 1)), (by first | rfl | (simp; done) | (simp [*]; done) | (simp [wrap64]; done)), H', ⟨by have := HK1.out; have := HK2.out; omega⟩, ⟨mvR HO_5.out⟩, ⟨mvb BK250.out⟩, ⟨mvh HB.out⟩⟩
     rw [if_pos c13] at H
     have c13b0 : decide (x8_2 < (l1.length : Int)) = true := decide_eq_true c13
     clear c13
     by_cases c14 : 0 ≤ x6_1
     rotate_left
     ·rw [if_neg c14] at H
      exact absurd H (by simp)
     rw [if_pos c14] at H
     have c14b0 : decide (0 ≤ x6_1) = true := decide_eq_true c14
     clear c14
     by_cases c15 : x6_1 < (x5_2.length : Int)
     rotate_left
     ·rw [if_neg c15] at H
      exact absurd H (by simp)
     rw [if_pos c15] at H
     have c15b0 : decide (x6_1 < (x5_2.length : Int)) = true := decide_eq_true c15
     clear c15
     replace H := Option.bind_eq_some_iff.mp H
     obtain ⟨t256, A160, H⟩ := H
     try dsimp only at H
     have A16 := Aside0.mk A160
     clear A160
     by_cases c17 : 0 ≤ x8_2
     rotate_left
     ·rw [if_neg c17] at H
      exact absurd H (by simp)
     rw [if_pos c17] at H
     have c17b0 : decide (0 ≤ x8_2) = true := decide_eq_true c17
     clear c17
     obtain ⟨y258, hy258⟩ : ∃ y_ : List Int, y_ = (x5_2.set (x6_1 : Int).toNat (Go.bits .xor .u8 t256 (rd l1 x8_2))) := ⟨_, rfl⟩
     replace H : (r4_syndromes.l1 k2 l1 y258 x6_1 t254 (wrap64 (x8_2 + 1)) a0_0 a0_1 a0_2 a0_3) = some r := by rw [hy258]; exact H
     have Ny258 := Aside0.mk hy258
     clear hy258
     have H' := Aside0.mk H
     clear H
     try go_wp2
     have n0_ := aK (Kd.R_drew HO_5.out)
     have n1_ := aK (blk_drew BK250.out)
     have n2_ := aK (below_drew1 HB.out)
     clear HO_5 BK250 HB
     have HO_5 := n0_
     have BK250 := n1_
     have HB := n2_
     clear n0_ n1_ n2_
     obtain ⟨Ao20, co20, eo20⟩ := Kd.R_slice HO_5.out
     (first | subst eo20 | (injection eo20 with f1_ f2_ f3_; have f4_ := f1_.symm; have f5_ := f3_.symm; clear f1_ f2_ f3_; subst f4_; subst f5_))
     have p255 : 0 ≤ (x6_1 : Int) := of_decide_eq_true (by first | (with_reducible assumption) | assumption)
     have q255 : x6_1 < (x5_2.length : Int) := of_decide_eq_true (by first | (with_reducible assumption) | assumption)
     obtain ⟨ad255, e255, hx255_0⟩ := Kd.at_int (Kd.R_reads' HO_5.out).2.2 x6_1 p255 q255
     cases e255
     replace p255 := eq_true p255
     replace q255 := eq_true q255
     have p257 : 0 ≤ (x8_2 : Int) := of_decide_eq_true (by first | (with_reducible assumption) | assumption)
     have q257 : x8_2 < (l1.length : Int) := of_decide_eq_true (by first | (with_reducible assumption) | assumption)
     obtain ⟨ad257, e257, hx257_0⟩ := Kd.at_int HR1.out x8_2 p257 q257
     have hw257_0 := hx257_0
     cases e257
     replace hx257_0 := (HB.out.cell (World.block_lt_of_cell? w _ hx257_0)).trans hx257_0
     replace p257 := eq_true p257
     replace q257 := eq_true q257
     refine start_ (n := 17) (S := fun w' => w'.cell? ⟨gb250, 0, none⟩ = some (.int .i64 a0_0) ∧ w'.cell? ⟨gb250, 1, none⟩ = some (.int .u64 a0_1) ∧ w'.cell? ⟨gb250, 2, none⟩ = some (.int .i64 a0_2) ∧ w'.cell? ⟨gb250, 3, none⟩ = some (.int .i64 a0_3) ∧ w'.cell? (ad255.add (x6_1).toNat) = some (.int .u8 (rd x5_2 x6_1)) ∧ w'.cell? (ad257.add (x8_2).toNat) = some (.int .u8 (rd l1 x8_2))) (ds := [16]) #[false, false, false, false, false, false, false, false, false, false, false, false, false, false, false, false, false] (by kernel_rfl) rfl rfl ⟨(blk_cell BK250.out 0).trans rfl, (blk_cell BK250.out 1).trans rfl, (blk_cell BK250.out 2).trans rfl, (blk_cell BK250.out 3).trans rfl, hx255_0, ((HB.out.cell (World.block_lt_of_cell? w _ hw257_0)).trans hw257_0)⟩ (fun hHeld => ?_); refine with_tabW r4_syndromes.tab9 r4_syndromes.bits9 (fun HT_ HW_ => ?_)
     generalize wr.drew = w19 at HO_5 BK250 HB hx255_0 hx257_0 hHeld ⊢
     refine pure_ (i := 0) (N := some 31) (v := ?_) (a' := ?_) #[true, false, false, false, false, false, false, false, false, false, false, false, false, false, false, false, false] rfl rfl (any_of HT_.out (by kernel_rfl)) (fun _ _ _ h => h) (Or.inl ⟨by rfl, ?_⟩) ?_ ?_
     rotate_left
     ·intro w'
      go_simp
      with_reducible rfl
     rotate_left
     ·simp only [Act.put, List.setIfInBounds_toArray, List.set_cons_zero, List.set_cons_succ, i64_w, i32_w]
      rfl
     refine pure_ (i := 1) (N := some 32) (v := ?_) (a' := ?_) #[true, true, false, false, false, false, false, false, false, false, false, false, false, false, false, false, false] rfl rfl (any_of HT_.out (by kernel_rfl)) (fun _ _ _ h => h) (Or.inl ⟨by rfl, ?_⟩) ?_ ?_
     rotate_left
     ·intro w'
      go_simp
      with_reducible rfl
     rotate_left
     ·simp only [Act.put, List.setIfInBounds_toArray, List.set_cons_zero, List.set_cons_succ, i64_w, i32_w]
      rfl
     refine pure_ (i := 2) (N := some 33) (v := ?_) (a' := ?_) #[true, true, true, false, false, false, false, false, false, false, false, false, false, false, false, false, false] rfl rfl (any_of HT_.out (by kernel_rfl)) (fun _ _ _ h => h) (Or.inl ⟨by rfl, ?_⟩) ?_ ?_
     rotate_left
     ·intro w'
      go_simp
      with_reducible rfl
     rotate_left
     ·simp only [Act.put, List.setIfInBounds_toArray, List.set_cons_zero, List.set_cons_succ, i64_w, i32_w]
      rfl
     refine pure_ (i := 4) (N := some 35) (v := ?_) (a' := ?_) #[true, true, true, false, true, false, false, false, false, false, false, false, false, false, false, false, false] rfl rfl (any_of HT_.out (by kernel_rfl)) (fun _ _ _ h => h) (Or.inl ⟨by rfl, ?_⟩) ?_ ?_
     rotate_left
     ·intro w'
      go_simp
      with_reducible rfl
     rotate_left
     ·simp only [Act.put, List.setIfInBounds_toArray, List.set_cons_zero, List.set_cons_succ, i64_w, i32_w]
      rfl
     refine pure_ (i := 5) (N := some 36) (v := ?_) (a' := ?_) #[true, true, true, false, true, true, false, false, false, false, false, false, false, false, false, false, false] rfl rfl (any_of HT_.out (by kernel_rfl)) (fun _ _ _ h => h) (Or.inl ⟨by rfl, ?_⟩) ?_ ?_
     rotate_left
     ·intro w'
      go_simp
      with_reducible rfl
     rotate_left
     ·simp only [Act.put, List.setIfInBounds_toArray, List.set_cons_zero, List.set_cons_succ, i64_w, i32_w]
      rfl
     refine pure_ (i := 6) (N := some 37) (v := ?_) (a' := ?_) #[true, true, true, false, true, true, true, false, false, false, false, false, false, false, false, false, false] rfl rfl (any_of HT_.out (by kernel_rfl)) (fun _ _ _ h => h) (Or.inl ⟨by rfl, ?_⟩) ?_ ?_
     rotate_left
     ·intro w'
      go_simp
      with_reducible rfl
     rotate_left
     ·simp only [Act.put, List.setIfInBounds_toArray, List.set_cons_zero, List.set_cons_succ, i64_w, i32_w]
      rfl
     refine pure_ (i := 8) (N := some 39) (v := ?_) (a' := ?_) #[true, true, true, false, true, true, true, false, true, false, false, false, false, false, false, false, false] rfl rfl (any_of HT_.out (by kernel_rfl)) (fun _ _ _ h => h) (Or.inl ⟨by rfl, ?_⟩) ?_ ?_
     rotate_left
     ·intro w'
      go_simp
      with_reducible rfl
     rotate_left
     ·simp only [Act.put, List.setIfInBounds_toArray, List.set_cons_zero, List.set_cons_succ, i64_w, i32_w]
      rfl
     refine pure_ (i := 10) (N := some 41) (v := ?_) (a' := ?_) #[true, true, true, false, true, true, true, false, true, false, true, false, false, false, false, false, false] rfl rfl (any_of HT_.out (by kernel_rfl)) (fun _ _ _ h => h) (Or.inl ⟨by rfl, ?_⟩) ?_ ?_
     rotate_left
     ·intro w'
      go_simp
      with_reducible rfl
     rotate_left
     ·simp only [Act.put, List.setIfInBounds_toArray, List.set_cons_zero, List.set_cons_succ, i64_w, i32_w]
      rfl
     refine pure_ (i := 11) (N := some 42) (v := ?_) (a' := ?_) #[true, true, true, false, true, true, true, false, true, false, true, true, false, false, false, false, false] rfl rfl (any_of HT_.out (by kernel_rfl)) (fun _ _ _ h => h) (Or.inl ⟨by rfl, ?_⟩) ?_ ?_
     rotate_left
     ·intro w'
      go_simp
      with_reducible rfl
     rotate_left
     ·simp only [Act.put, List.setIfInBounds_toArray, List.set_cons_zero, List.set_cons_succ, i64_w, i32_w]
      rfl
     refine pure_ (i := 12) (N := some 43) (v := ?_) (a' := ?_) #[true, true, true, false, true, true, true, false, true, false, true, true, true, false, false, false, false] rfl rfl (any_of HT_.out (by kernel_rfl)) (fun _ _ _ h => h) (Or.inl ⟨by rfl, ?_⟩) ?_ ?_
     rotate_left
     ·intro w'
      go_simp
      with_reducible rfl
     rotate_left
     ·simp only [Act.put, List.setIfInBounds_toArray, List.set_cons_zero, List.set_cons_succ, i64_w, i32_w]
      rfl
     refine take_ (i := 3) (N := some 34) (v := ?_) (a' := ?_) #[true, true, true, true, true, true, true, false, true, false, true, true, true, false, false, false, false] rfl rfl (take_ofW HT_.out HW_.out (by kernel_rfl)) (fun _ _ _ h => h) (Or.inl ⟨by rfl, ?_⟩) hHeld ?_ ?_
     rotate_left
     ·rintro w' ⟨s0, s1, s2, s3, s4, s5⟩
      go_simp
      with_reducible rfl
     rotate_left
     ·simp only [Act.put, List.setIfInBounds_toArray, List.set_cons_zero, List.set_cons_succ, i64_w, i32_w]
      rfl
     refine take_ (i := 7) (N := some 38) (v := ?_) (a' := ?_) #[true, true, true, true, true, true, true, true, true, false, true, true, true, false, false, false, false] rfl rfl (take_ofW HT_.out HW_.out (by kernel_rfl)) (fun _ _ _ h => h) (Or.inl ⟨by rfl, ?_⟩) hHeld ?_ ?_
     rotate_left
     ·rintro w' ⟨s0, s1, s2, s3, s4, s5⟩
      go_simp
      with_reducible rfl
     rotate_left
     ·simp only [Act.put, List.setIfInBounds_toArray, List.set_cons_zero, List.set_cons_succ, i64_w, i32_w]
      rfl
     refine take_ (i := 13) (N := some 44) (v := ?_) (a' := ?_) #[true, true, true, true, true, true, true, true, true, false, true, true, true, true, false, false, false] rfl rfl (take_ofW HT_.out HW_.out (by kernel_rfl)) (fun _ _ _ h => h) (Or.inl ⟨by rfl, ?_⟩) hHeld ?_ ?_
     rotate_left
     ·rintro w' ⟨s0, s1, s2, s3, s4, s5⟩
      go_simp
      with_reducible rfl
     rotate_left
     ·simp only [Act.put, List.setIfInBounds_toArray, List.set_cons_zero, List.set_cons_succ, i64_w, i32_w]
      rfl
     refine one_ (i := 9) (N := some 40) #[true, true, true, true, true, true, true, true, true, true, true, true, true, true, false, false, false] rfl rfl (one_of HT_.out (by kernel_rfl)) (by decide) (fun K hK => ?_)
     refine goes_ Try.func37 (by kernel_rfl) rfl #[.agg #[.int .i64 a0_0, .int .u64 a0_1], .int .u8 (rd x5_2 x6_1), .int .u8 t254] (by rfl) rfl rfl (by (try simp only [List.map_toArray, List.map_cons, List.map_nil]) <;> rfl) ?_
     with_reducible refine (r4_mul.calls k2 a0_0 a0_1 (rd x5_2 x6_1) t254 t256 _ A16.out).mono ?_
     rintro e w21 ⟨rfl, hb⟩
     have HS4_ := (hb.cell (World.block_lt_of_cell? _ _ (hHeld.2.2.2.2.1))).trans (hHeld.2.2.2.2.1)
     refine ⟨_, rfl, ?_⟩
     have n0_ := aK (Kd.R_below (mvR HO_5.out) hb)
     have n1_ := aK (kb BK250.out hb)
     have n2_ := aK (below_step (mvh HB.out) hb)
     clear HO_5 BK250 HB
     have HO_5 := n0_
     have BK250 := n1_
     have HB := n2_
     clear n0_ n1_ n2_
     (try clear hb)
     have p18 : 0 ≤ (x6_1 : Int) := of_decide_eq_true (by first | (with_reducible assumption) | assumption)
     have q18 : (x6_1 : Int) < ((x5_2.length : Int) : Int) := of_decide_eq_true (by first | (with_reducible assumption) | assumption)
     obtain ⟨go18, co18, eo18, gb18, gl18, cl18, HG18⟩ := Kd.R_form HO_5.out (by omega)
     (first | cases eo18 | (injection eo18 with ea_ en_ ec_; (first | subst ea_ | (injection ea_ with ea_; subst ea_)); subst ec_; clear en_))
     have GB18 := Aside0.mk gb18
     have GG18 := Aside0.mk HG18
     clear gb18 gl18 HG18
     (first | simp only [add_plain] at hx255_0 | skip)
     obtain ⟨hx18_0, hf18_0⟩ := Kd.R_celln 0 HO_5.out (x6_1 : Int) p18 q18
     replace p18 := eq_true p18
     replace q18 := eq_true q18
     have HP22 := Kd.R_putn HO_5.out (x6_1 : Int) (Go.bits .xor .u8 t256 (rd l1 x8_2))
     rw [← Ny258.out] at HP22
     have HQ22 := Aside0.mk HP22
     clear HP22
     refine hK.out _ _ ⟨(blk_cell BK250.out 0).trans rfl, (blk_cell BK250.out 1).trans rfl, (blk_cell BK250.out 2).trans rfl, (blk_cell BK250.out 3).trans rfl, HS4_, ((HB.out.cell (World.block_lt_of_cell? w _ hw257_0)).trans hw257_0)⟩ (fun hHeld => ?_)
     clear hK K
     refine norm_ (a' := ?_) ?_ ?_
     rotate_left
     ·show Act.put _ (some 40) _ = _
      simp only [Act.put, List.setIfInBounds_toArray, List.set_cons_zero, List.set_cons_succ, i64_w, i32_w]
      rfl
     refine pure_ (i := 14) (N := some 45) (v := ?_) (a' := ?_) #[true, true, true, true, true, true, true, true, true, true, true, true, true, true, true, false, false] rfl rfl (any_of HT_.out (by kernel_rfl)) (fun _ _ _ h => h) (Or.inl ⟨by rfl, ?_⟩) ?_ ?_
     rotate_left
     ·intro w'
      go_simp
      with_reducible rfl
     rotate_left
     ·simp only [Act.put, List.setIfInBounds_toArray, List.set_cons_zero, List.set_cons_succ, i64_w, i32_w]
      rfl
     refine pure_ (i := 15) (N := some 46) (v := ?_) (a' := ?_) #[true, true, true, true, true, true, true, true, true, true, true, true, true, true, true, true, false] rfl rfl (any_of HT_.out (by kernel_rfl)) (fun _ _ _ h => h) (Or.inl ⟨by rfl, ?_⟩) ?_ ?_
     rotate_left
     ·intro w'
      go_simp
      with_reducible rfl
     rotate_left
     ·simp only [Act.put, List.setIfInBounds_toArray, List.set_cons_zero, List.set_cons_succ, i64_w, i32_w]
      rfl
     refine last_ (i := 16) (N := none) #[true, true, true, true, true, true, true, true, true, true, true, true, true, true, true, true, true] rfl rfl (one_of HT_.out (by kernel_rfl)) (by decide) (fun K hK => ?_)
     refine skip_ (w1 := ?_) (by rfl) rfl ?_ ?_
     rotate_left
     ·go_simp
      rfl
     refine hK.out _ _ ?_
     clear hK K
     refine done_ (done_of HT_.out (by kernel_rfl)) ?_
     try go_wp2
     go_roundg k2
     case measure => have := HK1.out; have := HK2.out; omega
     case rel => exact ⟨(y258), (wrap64 (x8_2 + 1)), (by first | rfl | (simp; done) | (simp [*]; done) | (simp [wrap64]; done)), H', ⟨by have := HK1.out; have := HK2.out; omega⟩, ⟨mvR HQ22.out⟩, ⟨by (with_reducible repeat (first | apply bN | apply bD | apply bA)); refine blk_far ?_ (by have h_ := Kd.R_ne HO_5.out BK250.out (by decide); intro e_; exact h_ (by rw [e_]; rfl)) _; exact mvb BK250.out⟩, ⟨by repeat (first | (with_reducible first | exact HB.out | apply below_alloc | apply pw_below_drewN | apply below_drew1 | refine below_set ?_ GB18.out | refine below_set ?_ GE250.out) | exact HB.out)⟩⟩
def r4_Syndromes.f (k : Nat) (a0_0 : Int) (a0_1 : Int) (a0_2 : Int) (a0_3 : Int) (l1 : List Int) : Option (List Int × Int) := (r4_wrong.f k a0_0 a0_1 a0_2 a0_3 l1).bind fun t260 => (if t260 = 0 then ((r4_syndromes.f k a0_0 a0_1 a0_2 a0_3 l1).bind fun t261 => (some (t261, 0))) else (some (([] : List Int), t260)))
theorem r4_Syndromes.mono : ∀ a0 a1 a2 a3 a4 k, LeO (r4_Syndromes.f k a0 a1 a2 a3 a4) (r4_Syndromes.f (k + 1) a0 a1 a2 a3 a4) := by
 intro a0 a1 a2 a3 a4 k
 unfold r4_Syndromes.f
 repeat' first
   | (with_reducible exact r4_syndromes.mono _ _ _ _ _ _)
   | (with_reducible exact r4_wrong.mono _ _ _ _ _ _)
   | (with_reducible exact LeO.refl _)
   | (with_reducible exact LeO.none _)
   | (with_reducible refine LeO.ite ?_ ?_)
   | (with_reducible refine LeO.bind ?_ (fun _ => ?_))
set_option maxHeartbeats 8000000 in
set_option maxRecDepth 100000 in
theorem r4_Syndromes.calls (k : Nat) (a0_0 : Int) (a0_1 : Int) (a0_2 : Int) (a0_3 : Int) (A1 : Option Addr) (c1 : Nat) (l1 : List Int) (r1 : List Int) (r2 : Int) (w : World) (hr1 : Kd.C (Kd.int .u8) w A1 l1.length l1) (hc1 : l1.length ≤ c1) (h : r4_Syndromes.f k a0_0 a0_1 a0_2 a0_3 l1 = some (r1, r2)) :
  Calls Try.prog 12 #[.agg #[.int .i64 a0_0, .int .u64 a0_1, .int .i64 a0_2, .int .i64 a0_3], .slice A1 l1.length c1] w fun e w' => ∃ v0_ : Value, e = .returned (.tuple #[v0_, .int .i64 r2]) ∧ Kd.R (Kd.int .u8) 5 w' w.heap.size (fun _ => True) v0_ r1 ∧ Below w.heap.size w w' := by
 have hu26 := Try.underlying26
 have HR1 := Aside0.mk hr1
 have HC1 := Aside0.mk hc1
 clear hr1 hc1
 have HB := aK (Below.refl w.heap.size w)
 have H : ((r4_wrong.f k a0_0 a0_1 a0_2 a0_3 l1).bind fun t260 => (if t260 = 0 then ((r4_syndromes.f k a0_0 a0_1 a0_2 a0_3 l1).bind fun t261 => (some (t261, 0))) else (some (([] : List Int), t260)))) = some (r1, r2) := h
 clear h
 replace H := Option.bind_eq_some_iff.mp H
 obtain ⟨t260, A30, H⟩ := H
 try dsimp only at H
 have A3 := Aside0.mk A30
 clear A30
 by_cases c4 : t260 = 0
 rotate_left
 ·rw [if_neg c4] at H
  have c4b0 : (t260 == 0) = false := beq_eq_false_iff_ne.mpr c4
  have c4b1 : (t260 != 0) = true := bne_iff_ne.mpr c4
  simp only [Option.some.injEq, Prod.mk.injEq] at H
  obtain ⟨rfl, rfl⟩ := H
  go_enter Try.func12, Try.ntmps12
  go_wp2_with (first | ((with_reducible refine gate_dst (N := 2) rfl ?_); refine box_event ?hg (N := 2) ?hd (cs := #[.int .i64 a0_0, .int .u64 a0_1, .int .i64 a0_2, .int .i64 a0_3]) (t := 26) ?hr ?_; (case hd => rfl); (case hg => rfl); (case hr => first | (go_simp; done) | (go_simp; rfl)); intro gb259 hg w11 hbox hb; have n0_ := aK (below_step (mvh HB.out) hb); have n1_ := aK (hbox); have n2_ := aK ((by rw [hg]; exact (below_size (mvh HB.out)) : w.heap.size ≤ gb259)); have n3_ := aK ((by rw [hg]; exact (below_size (mvh HB.out)) : w.heap.size ≤ gb259)); clear HB; have HB := n0_; have BK259 := n1_; have GW259 := n2_; have GE259 := n3_; clear n0_ n1_ n2_ n3_; clear hb hbox hg; obtain ⟨hcz12_0, hcz12_1, hcz12_2, hcz12_3, hfz12_0, hfz12_1, hfz12_2, hfz12_3⟩ := cf4 BK259.out) | (go_at_call 30; (with_reducible refine (r4_wrong.calls k a0_0 a0_1 a0_2 a0_3 _ _ l1 t260 _ ?side1 ?side2 A3.out).mono ?_); (case side1 => exact Kd.C_below HR1.out (mvh HB.out)); (case side2 => exact HC1.out); rintro e w13 ⟨rfl, hb⟩; have n0_ := aK (kb BK259.out hb); have n1_ := aK (below_step (mvh HB.out) hb); clear BK259 HB; have BK259 := n0_; have HB := n1_; clear n0_ n1_; (try clear hb)))
  go_ret2
  exact ⟨_, by first | rfl | (simp [errW_none, errW_some] <;> rfl) | (simp [*, errW_none, errW_some] <;> rfl), by first | exact Kd.R_nil _ _ _ _ _ | exact Kd.N_nil _ _ _ _ _ | exact Kd.V_nil _ _ _ _ _ | exact Kd.Q_nil _ _ _ _ _ | exact Kd.S_nil _ _ _ _ _, mvh HB.out⟩

 rw [if_pos c4] at H
 have c4b0 : (t260 == 0) = true := beq_iff_eq.mpr c4
 have c4b1 : (t260 != 0) = false := bne_eq_false_iff_eq.mpr c4
 clear c4
 replace H := Option.bind_eq_some_iff.mp H
 obtain ⟨t261, A50, H⟩ := H
 replace H : (some (t261, 0)) = some (r1, r2) := H
 have A5 := Aside0.mk A50
 clear A50
 simp only [Option.some.injEq, Prod.mk.injEq] at H
 obtain ⟨rfl, rfl⟩ := H
 go_enter Try.func12, Try.ntmps12
 go_wp2_with (first | ((with_reducible refine gate_dst (N := 2) rfl ?_); refine box_event ?hg (N := 2) ?hd (cs := #[.int .i64 a0_0, .int .u64 a0_1, .int .i64 a0_2, .int .i64 a0_3]) (t := 26) ?hr ?_; (case hd => rfl); (case hg => rfl); (case hr => first | (go_simp; done) | (go_simp; rfl)); intro gb259 hg w6 hbox hb; have n0_ := aK (below_step (mvh HB.out) hb); have n1_ := aK (hbox); have n2_ := aK ((by rw [hg]; exact (below_size (mvh HB.out)) : w.heap.size ≤ gb259)); have n3_ := aK ((by rw [hg]; exact (below_size (mvh HB.out)) : w.heap.size ≤ gb259)); clear HB; have HB := n0_; have BK259 := n1_; have GW259 := n2_; have GE259 := n3_; clear n0_ n1_ n2_ n3_; clear hb hbox hg; obtain ⟨hcz7_0, hcz7_1, hcz7_2, hcz7_3, hfz7_0, hfz7_1, hfz7_2, hfz7_3⟩ := cf4 BK259.out) | (go_at_call 30; (with_reducible refine (r4_wrong.calls k a0_0 a0_1 a0_2 a0_3 _ _ l1 t260 _ ?side1 ?side2 A3.out).mono ?_); (case side1 => exact Kd.C_below HR1.out (mvh HB.out)); (case side2 => exact HC1.out); rintro e w8 ⟨rfl, hb⟩; have n0_ := aK (kb BK259.out hb); have n1_ := aK (below_step (mvh HB.out) hb); clear BK259 HB; have BK259 := n0_; have HB := n1_; clear n0_ n1_; (try clear hb); obtain ⟨hcz9_0, hcz9_1, hcz9_2, hcz9_3, hfz9_0, hfz9_1, hfz9_2, hfz9_3⟩ := cf4 BK259.out) | (go_at_call 31; (with_reducible refine (r4_syndromes.calls k a0_0 a0_1 a0_2 a0_3 _ _ l1 t261 _ ?side1 ?side2 A5.out).mono ?_); (case side1 => exact Kd.C_below HR1.out (mvh HB.out)); (case side2 => exact HC1.out); rintro e w10 ⟨v262, rfl, ho0, hb⟩; have n0_ := aK (Kd.R_lower ho0 (below_size (mvh HB.out))); have n1_ := aK (kb BK259.out hb); have n2_ := aK (below_step (mvh HB.out) hb); clear BK259 HB; have HO263 := n0_; have BK259 := n1_; have HB := n2_; clear n0_ n1_ n2_; (try clear hb); (try clear ho0)))
 go_ret2
 exact ⟨_, by first | rfl | (simp [errW_none, errW_some] <;> rfl) | (simp [*, errW_none, errW_some] <;> rfl), by (with_reducible repeat (first | apply Kd.R_alloc | apply Kd.R_drewN | apply Kd.R_drew)); exact HO263.out, mvh HB.out⟩
def r4_Member.l0 : Nat → List Int → Int → Option (Bool × Int)
 | 0, _, _ => none
 | k + 1, x6, x8 => if x8 < (x6.length : Int) then (if 0 ≤ x8 then (if (rd x6 x8) = 0 then (r4_Member.l0 k x6 (wrap64 (x8 + 1))) else (some (false, 0))) else (none)) else (some (true, 0))
def r4_Member.f (k : Nat) (a0_0 : Int) (a0_1 : Int) (a0_2 : Int) (a0_3 : Int) (l1 : List Int) : Option (Bool × Int) := (r4_Syndromes.f k a0_0 a0_1 a0_2 a0_3 l1).bind fun bt265 => (if bt265.2 = 0 then (r4_Member.l0 k bt265.1 0) else (some (false, bt265.2)))
theorem r4_Member.mono_l : ∀ k, (∀ y0 y1, LeO (r4_Member.l0 k y0 y1) (r4_Member.l0 (k + 1) y0 y1))
 | 0 => fun _ _ r h => by simp [r4_Member.l0] at h
 | k + 1 => by
  have ih0 := r4_Member.mono_l k
  ·intro y0 y1
   unfold r4_Member.l0
   repeat' first
   | (with_reducible exact ih0 _ _)
   | (with_reducible exact r4_Syndromes.mono _ _ _ _ _ _)
   | (with_reducible exact LeO.refl _)
   | (with_reducible exact LeO.none _)
   | (with_reducible refine LeO.ite ?_ ?_)
   | (with_reducible refine LeO.bind ?_ (fun _ => ?_))
theorem r4_Member.mono : ∀ a0 a1 a2 a3 a4 k, LeO (r4_Member.f k a0 a1 a2 a3 a4) (r4_Member.f (k + 1) a0 a1 a2 a3 a4) := by
 intro a0 a1 a2 a3 a4 k
 have ih0 := r4_Member.mono_l k
 unfold r4_Member.f
 repeat' first
   | (with_reducible exact ih0 _ _)
   | (with_reducible exact r4_Syndromes.mono _ _ _ _ _ _)
   | (with_reducible exact LeO.refl _)
   | (with_reducible exact LeO.none _)
   | (with_reducible refine LeO.ite ?_ ?_)
   | (with_reducible refine LeO.bind ?_ (fun _ => ?_))
set_option maxHeartbeats 8000000 in
set_option maxRecDepth 100000 in
theorem r4_Member.calls (k : Nat) (a0_0 : Int) (a0_1 : Int) (a0_2 : Int) (a0_3 : Int) (A1 : Option Addr) (c1 : Nat) (l1 : List Int) (r1 : Bool) (r2 : Int) (w : World) (hr1 : Kd.C (Kd.int .u8) w A1 l1.length l1) (hc1 : l1.length ≤ c1) (h : r4_Member.f k a0_0 a0_1 a0_2 a0_3 l1 = some (r1, r2)) :
  Calls Try.prog 13 #[.agg #[.int .i64 a0_0, .int .u64 a0_1, .int .i64 a0_2, .int .i64 a0_3], .slice A1 l1.length c1] w fun e w' => e = .returned (.tuple #[.bool r1, .int .i64 r2]) ∧ Below w.heap.size w w' := by
 have hu26 := Try.underlying26
 have HR1 := Aside0.mk hr1
 have HC1 := Aside0.mk hc1
 clear hr1 hc1
 have HB := aK (Below.refl w.heap.size w)
 have H : ((r4_Syndromes.f k a0_0 a0_1 a0_2 a0_3 l1).bind fun bt265 => (if bt265.2 = 0 then (r4_Member.l0 k bt265.1 0) else (some (false, bt265.2)))) = some (r1, r2) := h
 clear h
 replace H := Option.bind_eq_some_iff.mp H
 obtain ⟨⟨t265, t268⟩, A30, H⟩ := H
 try dsimp only at H
 have A3 := Aside0.mk A30
 clear A30
 by_cases c4 : t268 = 0
 rotate_left
 ·rw [if_neg c4] at H
  have c4b0 : (t268 == 0) = false := beq_eq_false_iff_ne.mpr c4
  have c4b1 : (t268 != 0) = true := bne_iff_ne.mpr c4
  simp only [Option.some.injEq, Prod.mk.injEq] at H
  obtain ⟨rfl, rfl⟩ := H
  go_enter Try.func13, Try.ntmps13
  go_wp2_with (first | ((with_reducible refine gate_dst (N := 2) rfl ?_); refine box_event ?hg (N := 2) ?hd (cs := #[.int .i64 a0_0, .int .u64 a0_1, .int .i64 a0_2, .int .i64 a0_3]) (t := 26) ?hr ?_; (case hd => rfl); (case hg => rfl); (case hr => first | (go_simp; done) | (go_simp; rfl)); intro gb264 hg w14 hbox hb; have n0_ := aK (below_step (mvh HB.out) hb); have n1_ := aK (hbox); have n2_ := aK ((by rw [hg]; exact (below_size (mvh HB.out)) : w.heap.size ≤ gb264)); have n3_ := aK ((by rw [hg]; exact (below_size (mvh HB.out)) : w.heap.size ≤ gb264)); clear HB; have HB := n0_; have BK264 := n1_; have GW264 := n2_; have GE264 := n3_; clear n0_ n1_ n2_ n3_; clear hb hbox hg; obtain ⟨hcz15_0, hcz15_1, hcz15_2, hcz15_3, hfz15_0, hfz15_1, hfz15_2, hfz15_3⟩ := cf4 BK264.out) | (go_at_call 12; (with_reducible refine (r4_Syndromes.calls k a0_0 a0_1 a0_2 a0_3 _ _ l1 t265 t268 _ ?side1 ?side2 A3.out).mono ?_); (case side1 => exact Kd.C_below HR1.out (mvh HB.out)); (case side2 => exact HC1.out); rintro e w16 ⟨v266, rfl, ho0, hb⟩; have n0_ := aK (Kd.R_lower ho0 (below_size (mvh HB.out))); have n1_ := aK (kb BK264.out hb); have n2_ := aK (below_step (mvh HB.out) hb); clear BK264 HB; have HO267 := n0_; have BK264 := n1_; have HB := n2_; clear n0_ n1_ n2_; (try clear hb); (try clear ho0)))
  go_ret2
  exact ⟨by first | rfl | (simp [errW_none, errW_some] <;> rfl) | (simp [*, errW_none, errW_some] <;> rfl), mvh HB.out⟩

 rw [if_pos c4] at H
 have c4b0 : (t268 == 0) = true := beq_iff_eq.mpr c4
 have c4b1 : (t268 != 0) = false := bne_eq_false_iff_eq.mpr c4
 clear c4
 have H' := Aside0.mk H
 clear H
 go_enter Try.func13, Try.ntmps13
 go_wp2_with (first | ((with_reducible refine gate_dst (N := 2) rfl ?_); refine box_event ?hg (N := 2) ?hd (cs := #[.int .i64 a0_0, .int .u64 a0_1, .int .i64 a0_2, .int .i64 a0_3]) (t := 26) ?hr ?_; (case hd => rfl); (case hg => rfl); (case hr => first | (go_simp; done) | (go_simp; rfl)); intro gb264 hg w5 hbox hb; have n0_ := aK (below_step (mvh HB.out) hb); have n1_ := aK (hbox); have n2_ := aK ((by rw [hg]; exact (below_size (mvh HB.out)) : w.heap.size ≤ gb264)); have n3_ := aK ((by rw [hg]; exact (below_size (mvh HB.out)) : w.heap.size ≤ gb264)); clear HB; have HB := n0_; have BK264 := n1_; have GW264 := n2_; have GE264 := n3_; clear n0_ n1_ n2_ n3_; clear hb hbox hg; obtain ⟨hcz6_0, hcz6_1, hcz6_2, hcz6_3, hfz6_0, hfz6_1, hfz6_2, hfz6_3⟩ := cf4 BK264.out) | (go_at_call 12; (with_reducible refine (r4_Syndromes.calls k a0_0 a0_1 a0_2 a0_3 _ _ l1 t265 t268 _ ?side1 ?side2 A3.out).mono ?_); (case side1 => exact Kd.C_below HR1.out (mvh HB.out)); (case side2 => exact HC1.out); rintro e w7 ⟨v266, rfl, ho0, hb⟩; have n0_ := aK (Kd.R_lower ho0 (below_size (mvh HB.out))); have n1_ := aK (kb BK264.out hb); have n2_ := aK (below_step (mvh HB.out) hb); clear BK264 HB; have HO267 := n0_; have BK264 := n1_; have HB := n2_; clear n0_ n1_ n2_; (try clear hb); (try clear ho0)))
 go_loopg [8] k (fun kq v8 w' => ∃ (x8_1 : Int), v8 = .int .i64 x8_1 ∧ Aside0 (r4_Member.l0 kq t265 x8_1 = some (r1, r2)) ∧ Aside0 (kq ≤ k) ∧ Aside0 (Kd.R (Kd.int .u8) 5 w' w.heap.size (fun _ => True) v266 t265) ∧ Aside0 (w'.heap[gb264]? = some (.cells #[.int .i64 a0_0, .int .u64 a0_1, .int .i64 a0_2, .int .i64 a0_3] 26 (0, 0))) ∧ Aside0 (Below w.heap.size w w'))
 case atStart => exact ⟨(0), (by first | rfl | (simp; done) | (simp [*]; done) | (simp [wrap64]; done)), H', ⟨Nat.le_refl _⟩, ⟨mvR HO267.out⟩, ⟨mvb BK264.out⟩, ⟨mvh HB.out⟩⟩
 case round =>
  clear H'
  (try clear c1); (try clear p2); (try clear c4); (try clear c4b0); (try clear c4b1); (try clear p6); (try clear hcz6_0); (try clear hcz6_1); (try clear hcz6_2); (try clear hcz6_3); (try clear hfz6_0); (try clear hfz6_1); (try clear hfz6_2); (try clear hfz6_3)
  obtain ⟨x8_1, rfl, HA, HK1, HO_6, BK264, HB⟩ := hrel
  cases gk with
  | zero => exact absurd HA.out (by simp [r4_Member.l0])
  | succ k1 =>
   have H := HA.out
   clear HA
   simp only [r4_Member.l0] at H
   by_cases c8 : x8_1 < (t265.length : Int)
   rotate_left
   ·rw [if_neg c8] at H
    have c8b0 : decide (x8_1 < (t265.length : Int)) = false := decide_eq_false c8
    clear c8
    simp only [Option.some.injEq, Prod.mk.injEq] at H
    obtain ⟨rfl, rfl⟩ := H
    obtain ⟨Ao13, co13, eo13⟩ := Kd.R_slice HO_6.out
    subst eo13
    go_wp2
    go_ret2
    exact ⟨by first | rfl | (simp [errW_none, errW_some] <;> rfl) | (simp [*, errW_none, errW_some] <;> rfl), mvh HB.out⟩
   rw [if_pos c8] at H
   have c8b0 : decide (x8_1 < (t265.length : Int)) = true := decide_eq_true c8
   clear c8
   by_cases c9 : 0 ≤ x8_1
   rotate_left
   ·rw [if_neg c9] at H
    exact absurd H (by simp)
   rw [if_pos c9] at H
   have c9b0 : decide (0 ≤ x8_1) = true := decide_eq_true c9
   clear c9
   by_cases c10 : (rd t265 x8_1) = 0
   rotate_left
   ·rw [if_neg c10] at H
    have c10b0 : ((rd t265 x8_1) == 0) = false := beq_eq_false_iff_ne.mpr c10
    have c10b1 : ((rd t265 x8_1) != 0) = true := bne_iff_ne.mpr c10
    simp only [Option.some.injEq, Prod.mk.injEq] at H
    obtain ⟨rfl, rfl⟩ := H
    obtain ⟨Ao12, co12, eo12⟩ := Kd.R_slice HO_6.out
    subst eo12
    have p269 : 0 ≤ (x8_1 : Int) := of_decide_eq_true (by first | (with_reducible assumption) | assumption)
    have q269 : x8_1 < (t265.length : Int) := of_decide_eq_true (by first | (with_reducible assumption) | assumption)
    obtain ⟨ad269, e269, hx269_0⟩ := Kd.at_int (Kd.R_reads' HO_6.out).2.2 x8_1 p269 q269
    cases e269
    replace p269 := eq_true p269
    replace q269 := eq_true q269
    go_wp2
    go_ret2
    exact ⟨by first | rfl | (simp [errW_none, errW_some] <;> rfl) | (simp [*, errW_none, errW_some] <;> rfl), mvh HB.out⟩
   rw [if_pos c10] at H
   have c10b0 : ((rd t265 x8_1) == 0) = true := beq_iff_eq.mpr c10
   have c10b1 : ((rd t265 x8_1) != 0) = false := bne_eq_false_iff_eq.mpr c10
   clear c10
   have H' := Aside0.mk H
   clear H
   obtain ⟨Ao11, co11, eo11⟩ := Kd.R_slice HO_6.out
   subst eo11
   have p269 : 0 ≤ (x8_1 : Int) := of_decide_eq_true (by first | (with_reducible assumption) | assumption)
   have q269 : x8_1 < (t265.length : Int) := of_decide_eq_true (by first | (with_reducible assumption) | assumption)
   obtain ⟨ad269, e269, hx269_0⟩ := Kd.at_int (Kd.R_reads' HO_6.out).2.2 x8_1 p269 q269
   cases e269
   replace p269 := eq_true p269
   replace q269 := eq_true q269
   go_wp2
   go_roundg k1
   case measure => have := HK1.out; omega
   case rel => exact ⟨(wrap64 (x8_1 + 1)), (by first | rfl | (simp; done) | (simp [*]; done) | (simp [wrap64]; done)), H', ⟨by have := HK1.out; omega⟩, ⟨mvR HO_6.out⟩, ⟨mvb BK264.out⟩, ⟨mvh HB.out⟩⟩
def l4_num.f (a0 : Int) : Option (Int) := some a0
set_option maxHeartbeats 8000000 in
set_option maxRecDepth 100000 in
theorem l4_num.calls (a0 : Int) (r : Int) (w : World) (h : l4_num.f a0 = some r) :
  Calls Try.prog 14 #[.int .i64 a0] w fun e w' => e = .returned (.int .i64 r) ∧ Drawn0 w w' := by
 have H : (some a0) = some r := h
 clear h
 obtain rfl := Option.some.inj H
 go_enter Try.func14, Try.ntmps14
 go_wp2
 go_ret
 exact ⟨by first | rfl | (simp; done) | (simp [*]; done) | (simp [wrap64]; done), by repeat (first | exact Drawn0.refl _ | apply Drawn0.step)⟩

def l1_Stays.f (l0 l1 : List Int) : Option Bool := if l0 = l1 then some true else none
set_option maxHeartbeats 8000000 in
set_option maxRecDepth 100000 in
theorem l1_Stays.calls (A0 : Option Addr) (c0 : Nat) (l0 : List Int) (A1 : Option Addr) (c1 : Nat) (l1 : List Int) (r : Bool) (w : World) (hl0 : ∃ base ok, Kd.L (Kd.int .u8) 5 w base ok (.slice A0 l0.length c0) l0) (hc0 : l0.length ≤ c0) (hr1 : Kd.C (Kd.int .u8) w A1 l1.length l1) (hc1 : l1.length ≤ c1) (h : l1_Stays.f l0 l1 = some r) :
  Calls Try.prog 15 #[.slice A0 l0.length c0, .slice A1 l1.length c1] w fun e w' => e = .returned (.bool r) ∧ Drawn0 w w' := by
 unfold l1_Stays.f at h
 by_cases e : l0 = l1
 rotate_left
 ·rw [if_neg e] at h
  exact absurd h (by simp)

 rw [if_pos e] at h
 obtain rfl := Option.some.inj h
 subst e
 clear h
 obtain ⟨base, ok, g, cap, hv, hR⟩ := hl0
 obtain ⟨hA, hcc⟩ : A0 = some ⟨g, 0, none⟩ ∧ c0 = cap := by
  injection hv with h1 _ h3
  exact ⟨h1, h3⟩
 subst hA hcc
 have HF := aK (Kd.R_reads' hR).2.2
 have hm := Kd.C_max HF.out
 have hcap : (l0 ++ Kd.marks).length ≤ c0 := (Kd.R_reads' hR).2.1
 have hlen : (l0 ++ Kd.marks).length = l0.length + 8 := by simp [Kd.marks]
 rw [hlen] at hm hcap
 have HCELL := aK (fun (j : Nat) (hj : j < 8) => by
  obtain ⟨ad, he, hx⟩ := Kd.at_int HF.out ((l0.length + j : Nat) : Int) (by omega) (by rw [hlen]; omega)
  cases he
  rw [Int.toNat_natCast, add_plain] at hx
  have hv : rd (l0 ++ Kd.marks) ((l0.length + j : Nat) : Int) = 200 + (j : Int) := by
   unfold rd
   rw [Int.toNat_natCast, List.getD_eq_getElem?_getD, List.getElem?_append_right (by omega), Nat.add_sub_cancel_left]
   match j, hj with
   | 0, _ => rfl
   | 1, _ => rfl
   | 2, _ => rfl
   | 3, _ => rfl
   | 4, _ => rfl
   | 5, _ => rfl
   | 6, _ => rfl
   | 7, _ => rfl
  rw [hv] at hx
  exact hx)
 have HR1 := Aside0.mk hr1
 have HR0 := aK (Kd.R_reads' (Kd.L_R ⟨g, c0, rfl, hR⟩)).2.2
 clear hR hv hlen HF hr1 hc1
 obtain ⟨i06, hi06, _, hsz6, _⟩ := info_parts info5
 have hel : Try.prog.elem 27 = 5 := by simp [Program.elem, Try.underlying27]
 have hcutA : ∀ (n j : Nat) (W : World), j ≤ c0 → (Instr.slice 27 (.slice (some ⟨g, 0, none⟩) n c0) none (some (.int .i64 (j : Int))) none).run Try.prog W = .ok (.slice (some ⟨g, 0, none⟩) j c0) W := by
  intro n j W hj
  have hu : Try.prog.underlying 27 = some (.slice (Try.prog.elem 27)) := by rw [hel]; exact Try.underlying27
  rw [run_slice_h W _ _ _ _ hu .i64 (j : Int) (by omega) (by omega), hel]
  simp [sizeOf, typeInfo, hi06, sliced, Result.andThen, Addr.add]
 have HC0 := Aside0.mk hc0
 have hl8 : l0.length + 8 ≤ 9223372036854775807 := hm
 have hcut1 := fun W => hcutA l0.length (l0.length + 8) W hcap
 have hcut2 := fun W => hcutA (l0.length + 8) l0.length W hc0
 have e8 : ((l0.length + 8 : Nat) : Int) = (l0.length : Int) + 8 := by omega
 rw [e8] at hcut1
 clear hcutA hel hi06 hsz6 hm hcap hc0 e8
 go_enter Try.func15, Try.ntmps15
 go_wp2
 go_loopg [6] (8 : Nat) (fun kq v6 w' => ∃ (j : Nat), v6 = .int .i64 (j : Int) ∧ Aside0 (j + kq = 8) ∧ Drawn0 w w')
 case atStart => exact ⟨0, rfl, ⟨rfl⟩, Drawn0.refl _⟩
 case round =>
  obtain ⟨j, rfl, HJ, ⟨m1, rfl⟩⟩ := hrel
  cases gk with
  | zero =>
   have hj8 : decide ((j : Int) < 8) = false := decide_eq_false (by have := HJ.out; omega)
   have hcv15 := fun n => Kd.C_string (P := Try.prog) (A := some ⟨g, 0, none⟩) (c := c0) Try.underlying27 Try.underlying5 Try.underlying9 (Kd.C_drewN HR0.out n)
   have hcv16 := fun n => Kd.C_string (P := Try.prog) (A := A1) (c := c1) Try.underlying27 Try.underlying5 Try.underlying9 (Kd.C_drewN HR1.out n)
   go_wp2
   go_quiet (fail)
   go_wp2
   go_ret
   exact ⟨by first | rfl | (simp; done), by repeat (first | exact Drawn0.refl _ | apply Drawn0.step)⟩
  | succ k1 =>
   have hj8 : decide ((j : Int) < 8) = true := decide_eq_true (by have := HJ.out; omega)
   have hjb : j ≤ 7 := by have := HJ.out; omega
   have hc := HCELL.out j (by omega)
   go_wp2
   go_roundg k1
   case measure => omega
   case rel => exact ⟨j + 1, by go_num, ⟨by have := HJ.out; omega⟩, Drawn0.step ⟨⟨m1, rfl⟩⟩ 0⟩
end Go.Proofs.Ytdhnjnkjhfomiaa.P

-- squeezed
