-- written by mk.sh, a program of this session, over the kit's print
import Derived.Test.YtjdkamhnbheofaaGpPx0
import Derived.Test.YtjdkamhnbheofaaGpPx2
import Derived.Test.YtjdkamhnbheofaaGpPx5
import Derived.Test.YtjdkamhnbheofaaGpPx6
import Derived.Test.YtjdkamhnbheofaaGpPx8
namespace Go.Proofs.Ytjdkamhnbheofaa.P
open Go.RowKit Go.Proofs.YtjdkamhnbheofaaW.PrintWords Go.Proofs.YtjdkamhnbheofaaW.PrintLast Go.Proofs.YtjdkamhnbheofaaW.PrintMore
attribute [local go_sem] max2_int min2_int max_two min_two max_three min_three max_four min_four   -- for this text's walks alone
set_option linter.unusedVariables false
set_option linter.unusedSimpArgs false

mutual
def gT_divide.l0 : Nat → GTab → List Int → List Int → List Int → Int → Option (List Int × List Int)
 | 0, _, _, _, _, _ => none
 | k + 1, x0, x1, x2, x6, x8 => if (x1.length : Int) ≥ (x2.length : Int) then (if 0 < x0.size then (if 0 < (x1.length : Int) then ((gN1.f x0 (rd x1 0) x8).bind fun t290 => (if x6.length < 140737488355328 then (gT_divide.l1 k x0 x1 x2 (x6 ++ [t290]) x8 t290 x2 (x2.length : Int) 0) else (none))) else (none)) else (none)) else ((galois_trim.f x6).bind fun t283 => ((galois_trim.f x1).bind fun t286 => (some (t283, t286))))
def gT_divide.l1 : Nat → GTab → List Int → List Int → List Int → Int → Int → List Int → Int → Int → Option (List Int × List Int)
 | 0, _, _, _, _, _, _, _, _, _ => none
 | k + 1, x0, x1, x2, x6, x8, x9, x39, x40, x41 => if x41 < x40 then (if 0 ≤ x41 then (if x41 < (x39.length : Int) then (if x41 < (x1.length : Int) then (if 0 < x0.size then ((gN1.f x0 x9 (rd x39 x41)).bind fun t296 => (gT_divide.l1 k x0 (x1.set (x41 : Int).toNat (Go.bits .xor .u8 (rd x1 x41) t296)) x2 x6 x8 x9 x39 x40 (wrap64 (x41 + 1)))) else (none)) else (none)) else (none)) else (none)) else (if 1 ≤ (x1.length : Int) then (gT_divide.l0 k x0 (x1.drop (1 : Int).toNat) x2 x6 x8) else (none))
end
def gT_divide.f (k : Nat) (a0 : GTab) (l1 : List Int) (l2 : List Int) : Option (List Int × List Int) := (galois_trim.f l1).bind fun t275 => ((galois_trim.f l2).bind fun t278 => (if 0 < (t278.length : Int) then ((gT_inv.f a0 (rd t278 0)).bind fun t282 => (gT_divide.l0 k a0 t275 t278 ([] : List Int) t282)) else (none)))
theorem gT_divide.mono_l : ∀ k, (∀ y0 y1 y2 y3 y4, LeO (gT_divide.l0 k y0 y1 y2 y3 y4) (gT_divide.l0 (k + 1) y0 y1 y2 y3 y4)) ∧ (∀ y0 y1 y2 y3 y4 y5 y6 y7 y8, LeO (gT_divide.l1 k y0 y1 y2 y3 y4 y5 y6 y7 y8) (gT_divide.l1 (k + 1) y0 y1 y2 y3 y4 y5 y6 y7 y8))
 | 0 => ⟨fun _ _ _ _ _ r h => by simp [gT_divide.l0] at h, fun _ _ _ _ _ _ _ _ _ r h => by simp [gT_divide.l1] at h⟩
 | k + 1 => by
  obtain ⟨ih0, ih1⟩ := gT_divide.mono_l k
  refine ⟨?_, ?_⟩
  ·intro y0 y1 y2 y3 y4
   unfold gT_divide.l0
   repeat' first
   | (with_reducible exact ih0 _ _ _ _ _)
   | (with_reducible exact ih1 _ _ _ _ _ _ _ _ _)
   | (with_reducible exact LeO.refl _)
   | (with_reducible exact LeO.none _)
   | (with_reducible refine LeO.ite ?_ ?_)
   | (with_reducible refine LeO.bind ?_ (fun _ => ?_))
  ·intro y0 y1 y2 y3 y4 y5 y6 y7 y8
   unfold gT_divide.l1
   repeat' first
   | (with_reducible exact ih0 _ _ _ _ _)
   | (with_reducible exact ih1 _ _ _ _ _ _ _ _ _)
   | (with_reducible exact LeO.refl _)
   | (with_reducible exact LeO.none _)
   | (with_reducible refine LeO.ite ?_ ?_)
   | (with_reducible refine LeO.bind ?_ (fun _ => ?_))
theorem gT_divide.mono : ∀ a0 a1 a2 k, LeO (gT_divide.f k a0 a1 a2) (gT_divide.f (k + 1) a0 a1 a2) := by
 intro a0 a1 a2 k
 obtain ⟨ih0, ih1⟩ := gT_divide.mono_l k
 unfold gT_divide.f
 repeat' first
   | (with_reducible exact ih0 _ _ _ _ _)
   | (with_reducible exact ih1 _ _ _ _ _ _ _ _ _)
   | (with_reducible exact LeO.refl _)
   | (with_reducible exact LeO.none _)
   | (with_reducible refine LeO.ite ?_ ?_)
   | (with_reducible refine LeO.bind ?_ (fun _ => ?_))
def gT_divide.T4 : Bool × List (List Nat × List Nat) := (true, [([], []), ([0], [0]), ([1], [1]), ([2], [2]), ([], []), ([4], [4]), ([5], [5]), ([], []), ([3, 6, 7], [3, 6, 7]), ([8, 8, 0, 1, 2, 3, 4, 5, 6, 7, 8], [8])])
def gT_divide.B4 : List Nat := [0, 1, 3, 7, 0, 16, 48, 0, 255, 511]
theorem gT_divide.tab4 : rtab .any (opsOf Try.f53 4) = gT_divide.T4 := by kernel_rfl
theorem gT_divide.bits4 : waitsOk gT_divide.T4.2 gT_divide.B4 = true := by kernel_rfl
def gT_divide.T9 : Bool × List (List Nat × List Nat) := (true, [([], []), ([], []), ([0, 1], [0, 1]), ([2], [2]), ([], []), ([4], [4]), ([5], [5]), ([6], [6]), ([], []), ([], []), ([7, 8, 9], [7, 8, 9]), ([3, 10], [3, 10]), ([0, 1, 0, 1, 2, 3, 4, 5, 6, 7, 8, 9, 10, 11], [0, 1]), ([12, 11, 10, 0, 1, 2, 3, 4, 5, 6, 7, 8, 9, 10, 11], [11, 12])])
def gT_divide.B9 : List Nat := [0, 0, 3, 7, 0, 16, 48, 112, 0, 0, 1008, 2047, 4095, 8191]
theorem gT_divide.tab9 : rtab .any (opsOf Try.f53 9) = gT_divide.T9 := by kernel_rfl
theorem gT_divide.bits9 : waitsOk gT_divide.T9.2 gT_divide.B9 = true := by kernel_rfl
set_option maxHeartbeats 8000000 in
set_option maxRecDepth 100000 in
theorem gT_divide.calls (k : Nat) (A0 : Option Addr) (a0 : GTab) (A1 : Option Addr) (c1 : Nat) (l1 : List Int) (A2 : Option Addr) (c2 : Nat) (l2 : List Int) (r1 : List Int) (r2 : List Int) (w : World) (hr0 : gal_OK w A0 a0) (hr1 : Kd.C (Kd.int .u8) w A1 l1.length l1) (hc1 : l1.length ≤ c1) (hr2 : Kd.C (Kd.int .u8) w A2 l2.length l2) (hc2 : l2.length ≤ c2) (h : gT_divide.f k a0 l1 l2 = some (r1, r2)) :
  Calls Try.prog 53 #[.pointer A0, .slice A1 l1.length c1, .slice A2 l2.length c2] w fun e w' => ∃ v0_ v1_ : Value, e = .returned (.tuple #[v0_, v1_]) ∧ Kd.R (Kd.int .u8) 5 w' w.heap.size (fun k_ => some k_ ≠ (v1_ : Value).ownBlock) v0_ r1 ∧ Kd.R (Kd.int .u8) 5 w' w.heap.size (fun k_ => some k_ ≠ (v0_ : Value).ownBlock) v1_ r2 ∧ Below w.heap.size w w' := by
 have HR0 := Aside0.mk hr0
 clear hr0
 have HR1 := Aside0.mk hr1
 have HC1 := Aside0.mk hc1
 clear hr1 hc1
 have HR2 := Aside0.mk hr2
 have HC2 := Aside0.mk hc2
 clear hr2 hc2
 have HB := aK (Below.refl w.heap.size w)
 have H : ((galois_trim.f l1).bind fun t275 => ((galois_trim.f l2).bind fun t278 => (if 0 < (t278.length : Int) then ((gT_inv.f a0 (rd t278 0)).bind fun t282 => (gT_divide.l0 k a0 t275 t278 ([] : List Int) t282)) else (none)))) = some (r1, r2) := h
 clear h
 replace H := Option.bind_eq_some_iff.mp H
 obtain ⟨t275, A40, H⟩ := H
 try dsimp only at H
 have A4 := Aside0.mk A40
 clear A40
 replace H := Option.bind_eq_some_iff.mp H
 obtain ⟨t278, A50, H⟩ := H
 try dsimp only at H
 have A5 := Aside0.mk A50
 clear A50
 by_cases c6 : 0 < (t278.length : Int)
 rotate_left
 ·rw [if_neg c6] at H
  exact absurd H (by simp)

 rw [if_pos c6] at H
 have c6b0 : decide (0 < (t278.length : Int)) = true := decide_eq_true c6
 have c6b1 : decide (0 < t278.length) = true := decide_eq_true (by omega)
 clear c6
 replace H := Option.bind_eq_some_iff.mp H
 obtain ⟨t282, A70, H⟩ := H
 try dsimp only at H
 have A7 := Aside0.mk A70
 clear A70
 have H' := Aside0.mk H
 clear H
 go_enter Try.func53, Try.ntmps53
 go_wp2_with (first | (go_at_call 52; (with_reducible refine (galois_trim.tight _ _ l1 t275 _ ?side1 ?side2 A4.out).mono ?_); (case side1 => exact mvC HR1.out); (case side2 => exact HC1.out); rintro e w8 ⟨v276, rfl, ho0, hb, ht⟩; have HT_ := Aside0.mk ht; clear ht; have n0_ := aK (Kd.R_lower ho0 (below_size (mvh HB.out))); have n1_ := aK (below_step (mvh HB.out) hb); clear HB; have HO277 := n0_; have HB := n1_; clear n0_ n1_; (try clear hb); (try clear ho0)) | (go_at_call 52; (with_reducible refine (galois_trim.calls _ _ l2 t278 _ ?side1 ?side2 A5.out).mono ?_); (case side1 => exact mvC (Kd.C_below HR2.out HB.out)); (case side2 => exact HC2.out); rintro e w9 ⟨v279, rfl, ho0, hb⟩; have n0_ := aK (Kd.R_elder' (mvR HO277.out) (Kd.R_base ho0) hb); have n1_ := aK (Kd.R_lower (Kd.R_new' ho0 (Kd.R_lt (mvR HO277.out))) (below_size (mvh HB.out))); have n2_ := aK (below_step (mvh HB.out) hb); clear HO277 HB; have HO277 := n0_; have HO280 := n1_; have HB := n2_; clear n0_ n1_ n2_; (try clear hb); (try clear ho0); obtain ⟨Ao10, co10, eo10⟩ := Kd.R_slice HO280.out; subst eo10; have p281 : 0 ≤ (0 : Int) := (by omega); have q281 : 0 < (t278.length : Int) := of_decide_eq_true (by first | (with_reducible assumption) | assumption); obtain ⟨ad281, e281, hx281_0⟩ := Kd.at_int (Kd.R_reads' HO280.out).2.2 0 p281 q281; cases e281; have qi281 : (0 < t278.length) = True := eq_true (by omega); (try rw [show ((0 : Int)).toNat = 0 from rfl] at hx281_0); (try rw [Addr.add_zero'] at hx281_0); replace p281 := eq_true p281; replace q281 := eq_true q281) | (go_at_call 42; (with_reducible refine (gT_inv.calls _ a0 (rd t278 0) t282 _ ?side1 A7.out).mono ?_); (case side1 => exact (gal_OK_below HR0.out HB.out)); rintro e w' ⟨rfl, ⟨nd, rfl⟩⟩))
 go_loopg [1, 6] k (fun kq v1 v6 w' => ∃ (x1_1 : List Int) (x2_1 : List Int) (x6_1 : List Int), Aside0 (gT_divide.l0 kq a0 x1_1 x2_1 x6_1 t282 = some (r1, r2)) ∧ Aside0 (kq ≤ k) ∧ Aside0 (Kd.Z (Kd.int .u8) 5 w' w.heap.size (fun k_ => some k_ ≠ ((.slice (some ad281) t278.length co10) : Value).ownBlock ∧ some k_ ≠ (v6 : Value).ownBlock) v1 x1_1) ∧ Aside0 (Kd.R (Kd.int .u8) 5 w' w.heap.size (fun k_ => some k_ ≠ (v1 : Value).ownBlock ∧ some k_ ≠ (v6 : Value).ownBlock) (.slice (some ad281) t278.length co10) x2_1) ∧ Aside0 (Kd.R (Kd.int .u8) 5 w' w.heap.size (fun k_ => some k_ ≠ (v1 : Value).ownBlock ∧ some k_ ≠ ((.slice (some ad281) t278.length co10) : Value).ownBlock) v6 x6_1) ∧ Aside0 (Below w.heap.size w w'))
 case atStart => exact ⟨(t275), (t278), (([] : List Int)), H', ⟨Nat.le_refl _⟩, ⟨Kd.Z_of_R (by (with_reducible repeat (first | apply Kd.R_alloc | apply Kd.R_drewN | apply Kd.R_drew)); exact Kd.R_mono HO277.out (fun _ hk => ⟨hk.2, (by simp [Value.ownBlock])⟩)) HT_.out⟩, ⟨by (with_reducible repeat (first | apply Kd.R_alloc | apply Kd.R_drewN | apply Kd.R_drew)); exact Kd.R_mono HO280.out (fun _ hk => ⟨hk.2, (by simp [Value.ownBlock])⟩)⟩, ⟨by first | exact Kd.R_nil _ _ _ _ _ | exact Kd.N_nil _ _ _ _ _ | exact Kd.V_nil _ _ _ _ _ | exact Kd.Q_nil _ _ _ _ _ | exact Kd.S_nil _ _ _ _ _⟩, ⟨mvh HB.out⟩⟩
 case round =>
  clear H'
  (try clear c1); (try clear c2); (try clear p2); (try clear q2); (try clear hx2); (try clear qi2); (try clear c4); (try clear c5); (try clear c6); (try clear c6b0); (try clear c6b1); (try clear hx281_0); (try clear p281); (try clear q281)
  obtain ⟨x1_1, x2_1, x6_1, HA, HK1, HO_1, HO_2, HO_6, HB⟩ := hrel
  have hl2_1 := (Kd.R_reads' HO_2.out).1
  rw [hl2_1] at HO_2
  (try simp only [hl2_1])
  (try simp only [hl2_1] at HO_1)
  (try simp only [hl2_1] at HO_6)
  cases gk with
  | zero => exact absurd HA.out (by simp [gT_divide.l0])
  | succ k1 =>
   have H := HA.out
   clear HA
   simp only [gT_divide.l0] at H
   by_cases c11 : (x1_1.length : Int) ≥ (x2_1.length : Int)
   rotate_left
   ·rw [if_neg c11] at H
    have c11b0 : decide ((x2_1.length : Int) ≤ (x1_1.length : Int)) = false := decide_eq_false c11
    (try simp only [hl2_1] at c11b0)
    have c11b1 : decide (x2_1.length ≤ x1_1.length) = false := decide_eq_false (fun h => c11 (Int.ofNat_le.mpr h))
    (try simp only [hl2_1] at c11b1)
    clear c11
    replace H := Option.bind_eq_some_iff.mp H
    obtain ⟨t283, A320, H⟩ := H
    try dsimp only at H
    have A32 := Aside0.mk A320
    clear A320
    replace H := Option.bind_eq_some_iff.mp H
    obtain ⟨t286, A330, H⟩ := H
    replace H : (some (t283, t286)) = some (r1, r2) := H
    have A33 := Aside0.mk A330
    clear A330
    simp only [Option.some.injEq, Prod.mk.injEq] at H
    obtain ⟨rfl, rfl⟩ := H
    obtain ⟨Ao34, co34, eo34, _⟩ := Kd.Z_slice HO_1.out
    subst eo34
    obtain ⟨Ao35, co35, eo35⟩ := Kd.R_slice HO_6.out
    subst eo35
    go_wp2_with (first | (go_at_call 52; (with_reducible refine (galois_trim.calls _ _ x6_1 t283 _ ?side1 ?side2 A32.out).mono ?_); (case side1 => exact mvC (Kd.R_reads' HO_6.out).2.2); (case side2 => exact (Kd.R_reads' HO_6.out).2.1); rintro e w36 ⟨v284, rfl, ho0, hb⟩; have n0_ := aK (Kd.Z_elder' (by (with_reducible repeat (first | apply Kd.Z_alloc | apply Kd.Z_drewN | apply Kd.Z_drew)); exact HO_1.out) (Kd.R_base ho0) hb); have n1_ := aK (Kd.R_elder' (mvR HO_2.out) (Kd.R_base ho0) hb); have n2_ := aK (Kd.R_elder' (mvR HO_6.out) (Kd.R_base ho0) hb); have n3_ := aK (Kd.R_lower (Kd.R_new' (Kd.R_new' (Kd.R_new' ho0 (Kd.Z_lt (by (with_reducible repeat (first | apply Kd.Z_alloc | apply Kd.Z_drewN | apply Kd.Z_drew)); exact HO_1.out))) (Kd.R_lt (mvR HO_2.out))) (Kd.R_lt (mvR HO_6.out))) (below_size (mvh HB.out))); have n4_ := aK (below_step (mvh HB.out) hb); clear HO_1 HO_2 HO_6 HB; have HO_1 := n0_; have HO_2 := n1_; have HO_6 := n2_; have HO285 := n3_; have HB := n4_; clear n0_ n1_ n2_ n3_ n4_; (try clear hb); (try clear ho0)) | (go_at_call 52; (with_reducible refine (galois_trim.calls _ _ x1_1 t286 _ ?side1 ?side2 A33.out).mono ?_); (case side1 => exact mvC (Kd.Z_reads' HO_1.out).2.2); (case side2 => exact (Kd.Z_reads' HO_1.out).2.1); rintro e w37 ⟨v287, rfl, ho0, hb⟩; have n0_ := aK (Kd.Z_elder' (by (with_reducible repeat (first | apply Kd.Z_alloc | apply Kd.Z_drewN | apply Kd.Z_drew)); exact HO_1.out) (Kd.R_base ho0) hb); have n1_ := aK (Kd.R_elder' (mvR HO_2.out) (Kd.R_base ho0) hb); have n2_ := aK (Kd.R_elder' (mvR HO_6.out) (Kd.R_base ho0) hb); have n3_ := aK (Kd.R_elder' (mvR HO285.out) (Kd.R_base ho0) hb); have n4_ := aK (Kd.R_lower (Kd.R_new' (Kd.R_new' (Kd.R_new' (Kd.R_new' ho0 (Kd.Z_lt (by (with_reducible repeat (first | apply Kd.Z_alloc | apply Kd.Z_drewN | apply Kd.Z_drew)); exact HO_1.out))) (Kd.R_lt (mvR HO_2.out))) (Kd.R_lt (mvR HO_6.out))) (Kd.R_lt (mvR HO285.out))) (below_size (mvh HB.out))); have n5_ := aK (below_step (mvh HB.out) hb); clear HO_1 HO_2 HO_6 HO285 HB; have HO_1 := n0_; have HO_2 := n1_; have HO_6 := n2_; have HO285 := n3_; have HO288 := n4_; have HB := n5_; clear n0_ n1_ n2_ n3_ n4_ n5_; (try clear hb); (try clear ho0)))
    go_ret2
    exact ⟨_, _, by first | rfl | (simp [errW_none, errW_some] <;> rfl) | (simp [*, errW_none, errW_some] <;> rfl), by (with_reducible repeat (first | apply Kd.R_alloc | apply Kd.R_drewN | apply Kd.R_drew)); exact Kd.R_mono HO285.out (fun _ hk => hk.2), by (with_reducible repeat (first | apply Kd.R_alloc | apply Kd.R_drewN | apply Kd.R_drew)); exact Kd.R_mono HO288.out (fun _ hk => hk.2), mvh HB.out⟩
   rw [if_pos c11] at H
   have c11b0 : decide ((x2_1.length : Int) ≤ (x1_1.length : Int)) = true := decide_eq_true c11
   (try simp only [hl2_1] at c11b0)
   have c11b1 : decide (x2_1.length ≤ x1_1.length) = true := decide_eq_true (Int.ofNat_le.mp c11)
   (try simp only [hl2_1] at c11b1)
   clear c11
   by_cases c12 : 0 < a0.size
   rotate_left
   ·rw [if_neg c12] at H
    exact absurd H (by simp)
   rw [if_pos c12] at H
   obtain ⟨b_, p_, q_, rfl, hT_⟩ := gal_pos HR0.out c12
   have HT0 := Aside0.mk hT_
   clear hT_ c12
   by_cases c14 : 0 < (x1_1.length : Int)
   rotate_left
   ·rw [if_neg c14] at H
    exact absurd H (by simp)
   rw [if_pos c14] at H
   have c14b0 : decide (0 < (x1_1.length : Int)) = true := decide_eq_true c14
   (try simp only [hl2_1] at c14b0)
   have c14b1 : decide (0 < x1_1.length) = true := decide_eq_true (by omega)
   (try simp only [hl2_1] at c14b1)
   clear c14
   replace H := Option.bind_eq_some_iff.mp H
   obtain ⟨t290, A150, H⟩ := H
   try dsimp only at H
   have A15 := Aside0.mk A150
   clear A150
   by_cases c16 : x6_1.length < 140737488355328
   rotate_left
   ·rw [if_neg c16] at H
    exact absurd H (by simp)
   rw [if_pos c16] at H
   have LMc16 := Aside0.mk c16
   clear c16
   obtain ⟨y291, hy291⟩ : ∃ y_ : List Int, y_ = (x6_1 ++ [t290]) := ⟨_, rfl⟩
   replace H : (gT_divide.l1 k1 a0 x1_1 x2_1 y291 t282 t290 x2_1 (x2_1.length : Int) 0) = some (r1, r2) := by rw [hy291]; exact H
   have Ny291 := Aside0.mk hy291
   clear hy291
   have H' := Aside0.mk H
   clear H
   obtain ⟨Ao17, co17, eo17, _⟩ := Kd.Z_slice HO_1.out
   subst eo17
   try go_wp2
   have n0_ := aK (Kd.Z_drew HO_1.out)
   have n1_ := aK (Kd.R_drew HO_2.out)
   have n2_ := aK (Kd.R_drew HO_6.out)
   have n3_ := aK (below_drew1 HB.out)
   clear HO_1 HO_2 HO_6 HB
   have HO_1 := n0_
   have HO_2 := n1_
   have HO_6 := n2_
   have HB := n3_
   clear n0_ n1_ n2_ n3_
   have ho13 := gal_At_mul HT0.out
   have hx13 := (HB.out.cell (World.block_lt_of_cell? w _ ho13)).trans ho13
   have p289 : 0 ≤ (0 : Int) := (by omega)
   have q289 : 0 < (x1_1.length : Int) := of_decide_eq_true (by first | (with_reducible assumption) | assumption)
   obtain ⟨ad289, e289, hx289_0⟩ := Kd.at_int (Kd.Z_reads' HO_1.out).2.2 0 p289 q289
   cases e289
   have qi289 : (0 < x1_1.length) = True := eq_true (by omega)
   (try rw [show ((0 : Int)).toNat = 0 from rfl] at hx289_0)
   (try rw [Addr.add_zero'] at hx289_0)
   replace p289 := eq_true p289
   replace q289 := eq_true q289
   refine start_ (n := 10) (S := fun w' => w'.cell? ⟨b_, 513, none⟩ = some (.func (.func 56) #[] #[.pointer (some ⟨p_, 0, none⟩), .pointer (some ⟨q_, 0, none⟩)]) ∧ w'.cell? ad289 = some (.int .u8 (rd x1_1 0))) (ds := []) #[false, false, false, false, false, false, false, false, false, false] (by kernel_rfl) rfl rfl ⟨((HB.out.cell (World.block_lt_of_cell? w _ ho13)).trans ho13), hx289_0⟩ (fun hHeld => ?_); refine with_tabW gT_divide.tab4 gT_divide.bits4 (fun HT_ HW_ => ?_)
   generalize wr.drew = w18 at HO_1 HO_2 HO_6 HB hx289_0 hHeld ⊢
   refine pure_ (i := 0) (N := some 26) (v := ?_) (a' := ?_) #[true, false, false, false, false, false, false, false, false, false] rfl rfl (any_of HT_.out (by kernel_rfl)) (fun _ _ _ h => h) (Or.inl ⟨by rfl, ?_⟩) ?_ ?_
   rotate_left
   ·intro w'
    go_simp
    with_reducible rfl
   rotate_left
   ·simp only [Act.put, List.setIfInBounds_toArray, List.set_cons_zero, List.set_cons_succ, i64_w, i32_w]
    rfl
   refine pure_ (i := 1) (N := some 27) (v := ?_) (a' := ?_) #[true, true, false, false, false, false, false, false, false, false] rfl rfl (any_of HT_.out (by kernel_rfl)) (fun _ _ _ h => h) (Or.inl ⟨by rfl, ?_⟩) ?_ ?_
   rotate_left
   ·intro w'
    go_simp
    with_reducible rfl
   rotate_left
   ·simp only [Act.put, List.setIfInBounds_toArray, List.set_cons_zero, List.set_cons_succ, i64_w, i32_w]
    rfl
   refine pure_ (i := 2) (N := some 28) (v := ?_) (a' := ?_) #[true, true, true, false, false, false, false, false, false, false] rfl rfl (any_of HT_.out (by kernel_rfl)) (fun _ _ _ h => h) (Or.inl ⟨by rfl, ?_⟩) ?_ ?_
   rotate_left
   ·intro w'
    go_simp
    with_reducible rfl
   rotate_left
   ·simp only [Act.put, List.setIfInBounds_toArray, List.set_cons_zero, List.set_cons_succ, i64_w, i32_w]
    rfl
   refine pure_ (i := 4) (N := some 30) (v := ?_) (a' := ?_) #[true, true, true, false, true, false, false, false, false, false] rfl rfl (any_of HT_.out (by kernel_rfl)) (fun _ _ _ h => h) (Or.inl ⟨by rfl, ?_⟩) ?_ ?_
   rotate_left
   ·intro w'
    go_simp
    with_reducible rfl
   rotate_left
   ·simp only [Act.put, List.setIfInBounds_toArray, List.set_cons_zero, List.set_cons_succ, i64_w, i32_w]
    rfl
   refine pure_ (i := 5) (N := some 31) (v := ?_) (a' := ?_) #[true, true, true, false, true, true, false, false, false, false] rfl rfl (any_of HT_.out (by kernel_rfl)) (fun _ _ _ h => h) (Or.inl ⟨by rfl, ?_⟩) ?_ ?_
   rotate_left
   ·intro w'
    go_simp
    with_reducible rfl
   rotate_left
   ·simp only [Act.put, List.setIfInBounds_toArray, List.set_cons_zero, List.set_cons_succ, i64_w, i32_w]
    rfl
   refine pure_ (i := 7) (N := some 33) (v := ?_) (a' := ?_) #[true, true, true, false, true, true, false, true, false, false] rfl rfl (any_of HT_.out (by kernel_rfl)) (fun _ _ _ h => h) (Or.inl ⟨by rfl, ?_⟩) ?_ ?_
   rotate_left
   ·intro w'
    go_simp
    with_reducible rfl
   rotate_left
   ·simp only [Act.put, List.setIfInBounds_toArray, List.set_cons_zero, List.set_cons_succ, i64_w, i32_w]
    rfl
   refine take_ (i := 3) (N := some 29) (v := ?_) (a' := ?_) #[true, true, true, true, true, true, false, true, false, false] rfl rfl (take_ofW HT_.out HW_.out (by kernel_rfl)) (fun _ _ _ h => h) (Or.inl ⟨by rfl, ?_⟩) hHeld ?_ ?_
   rotate_left
   ·rintro w' ⟨s0, s1⟩
    go_simp
    with_reducible rfl
   rotate_left
   ·simp only [Act.put, List.setIfInBounds_toArray, List.set_cons_zero, List.set_cons_succ, i64_w, i32_w]
    rfl
   refine take_ (i := 6) (N := some 32) (v := ?_) (a' := ?_) #[true, true, true, true, true, true, true, true, false, false] rfl rfl (take_ofW HT_.out HW_.out (by kernel_rfl)) (fun _ _ _ h => h) (Or.inl ⟨by rfl, ?_⟩) hHeld ?_ ?_
   rotate_left
   ·rintro w' ⟨s0, s1⟩
    go_simp
    with_reducible rfl
   rotate_left
   ·simp only [Act.put, List.setIfInBounds_toArray, List.set_cons_zero, List.set_cons_succ, i64_w, i32_w]
    rfl
   refine one_ (i := 8) (N := some 34) #[true, true, true, true, true, true, true, true, true, false] rfl rfl (one_of HT_.out (by kernel_rfl)) (by decide) (fun K hK => ?_)
   refine goesF_ Try.func56 (by kernel_rfl) rfl #[.int .u8 (rd x1_1 0), .int .u8 t282, .pointer (some ⟨p_, 0, none⟩), .pointer (some ⟨q_, 0, none⟩)] (by rfl) rfl rfl (by rfl) (by (try simp only [List.map_toArray, List.map_cons, List.map_nil]); first | done | rfl | (simp only [List.length_drop, List.length_take]; rfl) | (simp [Act.eval, IntKind.wrap_u8, IntKind.wrap_u32]; done)) ?_
   with_reducible refine (gN1.calls b_ p_ q_ a0 (rd x1_1 0) t282 t290 _ ?side1 A15.out).mono ?_
   (case side1 => exact (gal_At_below HT0.out HB.out))
   rintro e w' ⟨rfl, ⟨nd, rfl⟩⟩
   refine ⟨_, rfl, ?_⟩
   refine hK.out _ _ ⟨((HB.out.cell (World.block_lt_of_cell? w _ ho13)).trans ho13), hHeld.2⟩ (fun hHeld => ?_)
   clear hK K
   refine norm_ (a' := ?_) ?_ ?_
   rotate_left
   ·show Act.put _ (some 34) _ = _
    simp only [Act.put, List.setIfInBounds_toArray, List.set_cons_zero, List.set_cons_succ, i64_w, i32_w]
    rfl
   refine pure_ (i := 9) (N := some 9) (v := ?_) (a' := ?_) #[true, true, true, true, true, true, true, true, true, true] rfl rfl (any_of HT_.out (by kernel_rfl)) (fun _ _ _ h => h) (Or.inl ⟨by rfl, ?_⟩) ?_ ?_
   rotate_left
   ·intro w'
    go_simp
    with_reducible rfl
   rotate_left
   ·simp only [Act.put, List.setIfInBounds_toArray, List.set_cons_zero, List.set_cons_succ, i64_w, i32_w]
    rfl
   refine done_ (done_of HT_.out (by kernel_rfl)) ?_
   try go_wp2_with (first | ((with_reducible refine gate_builtin (b := .append) (xs := #[.tmp 35, .tmp 37]) rfl ?_); at_builtin; refine Kd.R_append (Kd.int .u8) (w0 := w) w.heap.size rfl (.tmp 35) (.tmp 37) 25 5 (.int .u8 0) 1 rfl Try.underlying25 info5 rfl (by decide) (by omega) u6 x6_1 t290 [.int .u8 t290] (fun k_ => some k_ ≠ (.slice (some ad289) x1_1.length co17 : Value).ownBlock ∧ some k_ ≠ (.slice (some ad281) x2_1.length co10 : Value).ownBlock) (fun _ => False) rfl rfl ?aP (fun _ hk => hk.elim) ?aF ?aO ?aB ?aS ?aL ?_; (case aP => exact rfl); (case aB => exact (mvh HB.out)); (case aF => exact (fun k_ hk => ⟨Kd.fresh' (Kd.Z_lt (by (with_reducible repeat (first | apply Kd.Z_alloc | apply Kd.Z_drewN | apply Kd.Z_drew)); exact HO_1.out)) k_ hk, Kd.fresh' (Kd.R_lt (mvR HO_2.out)) k_ hk⟩)); (case aO => exact (mvR HO_6.out)); (case aS => exact (below_size (mvh HB.out))); (case aL => have := LMc16.out; omega); intro v292 w19 ho hb hg hat; rw [← Ny291.out] at ho; have n0_ := aK (Kd.Z_after (ok := (fun k_ => some k_ ≠ (.slice (some ad281) x2_1.length co10 : Value).ownBlock)) (by (with_reducible repeat (first | apply Kd.Z_alloc | apply Kd.Z_drewN | apply Kd.Z_drew)); exact HO_1.out) hg hat); have n1_ := aK (Kd.R_after (ok := (fun k_ => some k_ ≠ (.slice (some ad289) x1_1.length co17 : Value).ownBlock)) (mvR HO_2.out) hg hat); have n2_ := aK (hb); have n3_ := aK (ho); clear HO_1 HO_2 HB HO_6; have HO_1 := n0_; have HO_2 := n1_; have HB := n2_; have HO293 := n3_; clear n0_ n1_ n2_ n3_; clear ho hb hg hat))
   go_loopg [41] k1 (fun kq v41 w' => ∃ (x1_2 : List Int) (x41_2 : Int), v41 = .int .i64 x41_2 ∧ Aside0 (gT_divide.l1 kq a0 x1_2 x2_1 y291 t282 t290 x2_1 (x2_1.length : Int) x41_2 = some (r1, r2)) ∧ Aside0 (kq ≤ k1) ∧ Aside0 (Kd.Z (Kd.int .u8) 5 w' w.heap.size (fun k_ => some k_ ≠ ((.slice (some ad281) x2_1.length co10) : Value).ownBlock ∧ some k_ ≠ (v292 : Value).ownBlock ∧ some k_ ≠ ((.slice (some ad281) x2_1.length co10) : Value).ownBlock) (.slice (some ad289) x1_1.length co17) x1_2) ∧ Aside0 (Kd.R (Kd.int .u8) 5 w' w.heap.size (fun k_ => some k_ ≠ ((.slice (some ad289) x1_1.length co17) : Value).ownBlock ∧ some k_ ≠ (v292 : Value).ownBlock) (.slice (some ad281) x2_1.length co10) x2_1) ∧ Aside0 (Kd.R (Kd.int .u8) 5 w' w.heap.size (fun k_ => some k_ ≠ ((.slice (some ad289) x1_1.length co17) : Value).ownBlock ∧ some k_ ≠ ((.slice (some ad281) x2_1.length co10) : Value).ownBlock ∧ some k_ ≠ ((.slice (some ad281) x2_1.length co10) : Value).ownBlock) v292 y291) ∧ Aside0 (Kd.R (Kd.int .u8) 5 w' w.heap.size (fun k_ => some k_ ≠ ((.slice (some ad289) x1_1.length co17) : Value).ownBlock ∧ some k_ ≠ (v292 : Value).ownBlock) (.slice (some ad281) x2_1.length co10) x2_1) ∧ Aside0 (Below w.heap.size w w'))
   case atStart => exact ⟨(x1_1), (0), (by first | rfl | (simp; done) | (simp [*]; done) | (simp [wrap64]; done)), H', ⟨Nat.le_refl _⟩, ⟨by (try simp only [hl2_1]); (with_reducible repeat (first | apply Kd.Z_alloc | apply Kd.Z_drewN | apply Kd.Z_drew)); exact Kd.Z_mono HO_1.out (fun _ hk => ⟨hk.1, ⟨hk.2, hk.1⟩⟩)⟩, ⟨by (try simp only [hl2_1]); exact mvR HO_2.out⟩, ⟨by (try simp only [hl2_1]); (with_reducible repeat (first | apply Kd.R_alloc | apply Kd.R_drewN | apply Kd.R_drew)); exact Kd.R_mono HO293.out (fun _ hk => ⟨hk.1, ⟨hk.2, hk.2⟩⟩)⟩, ⟨by (try simp only [hl2_1]); exact mvR HO_2.out⟩, ⟨mvh HB.out⟩⟩
   case round =>
    (try clear hHeld)
    clear H'
    (try clear c1); (try clear hx1); (try clear c2); (try clear p2); (try clear q2); (try clear hx2); (try clear qi2); (try clear c4); (try clear c5); (try clear c6); (try clear c6b0); (try clear c6b1); (try clear p6); (try clear c11); (try clear c11b0); (try clear c11b1); (try clear c12); (try clear hx13)
    (try clear c14); (try clear c14b0); (try clear c14b1); (try clear c16); (try clear hx281_0); (try clear hx289_0); (try clear p2); (try clear p281); (try clear p289); (try clear q2); (try clear q281); (try clear q289)
    obtain ⟨x1_2, x41_2, rfl, HA, HK2, HO_1, HO_2, HO_6, HO_39, HB⟩ := hrel
    have hl1_2 := (Kd.Z_reads' HO_1.out).1
    rw [hl1_2] at HO_1
    (try simp only [hl1_2])
    (try simp only [hl1_2] at HO_2)
    (try simp only [hl1_2] at HO_6)
    (try simp only [hl1_2] at HO_39)
    cases gk with
    | zero => exact absurd HA.out (by simp [gT_divide.l1])
    | succ k2 =>
     have H := HA.out
     clear HA
     simp only [gT_divide.l1] at H
     by_cases c20 : x41_2 < (x2_1.length : Int)
     rotate_left
     ·rw [if_neg c20] at H
      have c20b0 : decide (x41_2 < (x2_1.length : Int)) = false := decide_eq_false c20
      (try simp only [hl2_1, hl1_2] at c20b0)
      clear c20
      by_cases c30 : 1 ≤ (x1_2.length : Int)
      rotate_left
      ·rw [if_neg c30] at H
       exact absurd H (by simp)
      rw [if_pos c30] at H
      have c30b0 := eq_true c30
      have c30b1 : decide (1 ≤ (x1_2.length : Int)) = true := decide_eq_true c30
      clear c30
      obtain ⟨y298, hy298⟩ : ∃ y_ : List Int, y_ = (x1_2.drop (1 : Int).toNat) := ⟨_, rfl⟩
      replace H : (gT_divide.l0 k2 a0 y298 x2_1 y291 t282) = some (r1, r2) := by rw [hy298]; exact H
      have Ny298 := Aside0.mk hy298
      clear hy298
      have H' := Aside0.mk H
      clear H
      have q31 : (1 : Int) ≤ ((x1_2.length : Int) : Int) := of_decide_eq_true (by first | (with_reducible assumption) | assumption)
      obtain ⟨i031, hi031, _, hsz31, _⟩ := info_parts info5
      have hcut31 := cut_three (P := Try.prog) 25 5 .i64 Try.underlying25 hi031 1 hsz31 (some ad289) x1_2.length co17 1 (by omega) q31 (Kd.Z_full HO_1.out)
      have hr31 := Kd.Z_drop (k := (1 : Int).toNat) HO_1.out (by omega)
      obtain ⟨A31, hA31⟩ : ∃ A1, A1 = (if co17 = (1 : Int).toNat then (some ad289) else ((some ad289) : Option Addr).map (·.add ((1 : Int).toNat * 1))) := ⟨_, rfl⟩
      obtain ⟨c31, hc31⟩ : ∃ c1, c1 = co17 - (1 : Int).toNat := ⟨_, rfl⟩
      have hy31 : y298.length = x1_2.length - (1 : Int).toNat := (by rw [Ny298.out, List.length_drop])
      rw [← Ny298.out] at hr31
      rw [← hy31, ← hA31, ← hc31] at hcut31
      replace hr31 : Kd.Z (Kd.int .u8) 5 wr w.heap.size (fun k_ => some k_ ≠ (.slice (some ad281) x2_1.length co10 : Value).ownBlock ∧ some k_ ≠ (v292 : Value).ownBlock ∧ some k_ ≠ (.slice (some ad281) x2_1.length co10 : Value).ownBlock) (.slice A31 y298.length c31) y298 := (by rw [hA31, hc31, hy31]; exact hr31)
      have HE31 : Aside0 ((Value.slice A31 y298.length c31).ownBlock = (.slice (some ad289) x1_2.length co17 : Value).ownBlock) := ⟨by rw [hA31]; split <;> (cases ((some ad289) : Option Addr) <;> rfl)⟩
      clear hy31 hi031 hsz31 HO_1 hA31 hc31
      have HO300 := Aside0.mk hr31
      clear hr31
      replace q31 := eq_true q31
      have n_ := aK (Kd.R_mono (ok' := fun k_ => (some k_ ≠ (.slice A31 y298.length c31 : Value).ownBlock ∧ some k_ ≠ (v292 : Value).ownBlock)) HO_2.out (fun k_ hk => ⟨(by rw [HE31.out]; exact hk.1), hk.2⟩))
      clear HO_2
      have HO_2 := n_
      clear n_
      have n_ := aK (Kd.R_mono (ok' := fun k_ => (some k_ ≠ (.slice A31 y298.length c31 : Value).ownBlock ∧ (some k_ ≠ (.slice (some ad281) x2_1.length co10 : Value).ownBlock ∧ some k_ ≠ (.slice (some ad281) x2_1.length co10 : Value).ownBlock))) HO_6.out (fun k_ hk => ⟨(by rw [HE31.out]; exact hk.1), ⟨hk.2.1, hk.2.2⟩⟩))
      clear HO_6
      have HO_6 := n_
      clear n_
      have n_ := aK (Kd.R_mono (ok' := fun k_ => (some k_ ≠ (.slice A31 y298.length c31 : Value).ownBlock ∧ some k_ ≠ (v292 : Value).ownBlock)) HO_39.out (fun k_ hk => ⟨(by rw [HE31.out]; exact hk.1), hk.2⟩))
      clear HO_39
      have HO_39 := n_
      clear n_
      go_wp2
      (try simp only [← hl2_1, ← hl1_2])
      go_roundg k2
      case measure => have := HK1.out; have := HK2.out; omega
      case rel => exact ⟨(y298), (x2_1), (y291), H', ⟨by have := HK1.out; have := HK2.out; omega⟩, ⟨by (try simp only [hl2_1]); (try simp only [hl1_2]); (with_reducible repeat (first | apply Kd.Z_alloc | apply Kd.Z_drewN | apply Kd.Z_drew)); exact Kd.Z_mono HO300.out (fun _ hk => ⟨hk.1, hk.2.1⟩)⟩, ⟨by (try simp only [hl2_1]); (try simp only [hl1_2]); exact mvR HO_2.out⟩, ⟨by (try simp only [hl2_1]); (try simp only [hl1_2]); (with_reducible repeat (first | apply Kd.R_alloc | apply Kd.R_drewN | apply Kd.R_drew)); exact Kd.R_mono HO_6.out (fun _ hk => ⟨hk.1, hk.2.1⟩)⟩, ⟨mvh HB.out⟩⟩
     rw [if_pos c20] at H
     have c20b0 : decide (x41_2 < (x2_1.length : Int)) = true := decide_eq_true c20
     (try simp only [hl2_1, hl1_2] at c20b0)
     clear c20
     by_cases c21 : 0 ≤ x41_2
     rotate_left
     ·rw [if_neg c21] at H
      exact absurd H (by simp)
     rw [if_pos c21] at H
     have c21b0 : decide (0 ≤ x41_2) = true := decide_eq_true c21
     clear c21
     by_cases c22 : x41_2 < (x2_1.length : Int)
     rotate_left
     ·rw [if_neg c22] at H
      exact absurd H (by simp)
     rw [if_pos c22] at H
     have c22b0 : decide (x41_2 < (x2_1.length : Int)) = true := decide_eq_true c22
     (try simp only [hl2_1, hl1_2] at c22b0)
     clear c22
     by_cases c23 : x41_2 < (x1_2.length : Int)
     rotate_left
     ·rw [if_neg c23] at H
      exact absurd H (by simp)
     rw [if_pos c23] at H
     have c23b0 : decide (x41_2 < (x1_2.length : Int)) = true := decide_eq_true c23
     (try simp only [hl2_1, hl1_2] at c23b0)
     clear c23
     by_cases c24 : 0 < a0.size
     rotate_left
     ·rw [if_neg c24] at H
      exact absurd H (by simp)
     rw [if_pos c24] at H
     clear c24
     replace H := Option.bind_eq_some_iff.mp H
     obtain ⟨t296, A260, H⟩ := H
     try dsimp only at H
     have A26 := Aside0.mk A260
     clear A260
     obtain ⟨y297, hy297⟩ : ∃ y_ : List Int, y_ = (x1_2.set (x41_2 : Int).toNat (Go.bits .xor .u8 (rd x1_2 x41_2) t296)) := ⟨_, rfl⟩
     replace H : (gT_divide.l1 k2 a0 y297 x2_1 y291 t282 t290 x2_1 (x2_1.length : Int) (wrap64 (x41_2 + 1))) = some (r1, r2) := by rw [hy297]; exact H
     have Ny297 := Aside0.mk hy297
     clear hy297
     have H' := Aside0.mk H
     clear H
     have p294 : 0 ≤ (x41_2 : Int) := of_decide_eq_true (by first | (with_reducible assumption) | assumption)
     have q294 : x41_2 < (x2_1.length : Int) := of_decide_eq_true (by first | (with_reducible assumption) | assumption)
     obtain ⟨ad294, e294, hx294_0⟩ := Kd.at_int (Kd.R_reads' HO_39.out).2.2 x41_2 p294 q294
     obtain rfl : ad281 = ad294 := (by injection e294)
     replace p294 := eq_true p294
     replace q294 := eq_true q294
     try go_wp2
     have n0_ := aK (Kd.Z_drew HO_1.out)
     have n1_ := aK (Kd.R_drew HO_2.out)
     have n2_ := aK (Kd.R_drew HO_6.out)
     have n3_ := aK (Kd.R_drew HO_39.out)
     have n4_ := aK (below_drew1 HB.out)
     clear HO_1 HO_2 HO_6 HO_39 HB
     have HO_1 := n0_
     have HO_2 := n1_
     have HO_6 := n2_
     have HO_39 := n3_
     have HB := n4_
     clear n0_ n1_ n2_ n3_ n4_
     have p295 : 0 ≤ (x41_2 : Int) := of_decide_eq_true (by first | (with_reducible assumption) | assumption)
     have q295 : x41_2 < (x1_2.length : Int) := of_decide_eq_true (by first | (with_reducible assumption) | assumption)
     obtain ⟨ad295, e295, hx295_0⟩ := Kd.at_int (Kd.Z_reads' HO_1.out).2.2 x41_2 p295 q295
     obtain rfl : ad289 = ad295 := (by injection e295)
     replace p295 := eq_true p295
     replace q295 := eq_true q295
     have ho25 := gal_At_mul HT0.out
     have hx25 := (HB.out.cell (World.block_lt_of_cell? w _ ho25)).trans ho25
     refine start_ (n := 14) (S := fun w' => w'.cell? (ad289.add (x41_2).toNat) = some (.int .u8 (rd x1_2 x41_2)) ∧ w'.cell? ⟨b_, 513, none⟩ = some (.func (.func 56) #[] #[.pointer (some ⟨p_, 0, none⟩), .pointer (some ⟨q_, 0, none⟩)])) (ds := [13]) #[false, false, false, false, false, false, false, false, false, false, false, false, false, false] (by kernel_rfl) rfl rfl ⟨hx295_0, ((HB.out.cell (World.block_lt_of_cell? w _ ho25)).trans ho25)⟩ (fun hHeld => ?_); refine with_tabW gT_divide.tab9 gT_divide.bits9 (fun HT_ HW_ => ?_)
     generalize wr.drew = w28 at HO_1 HO_2 HO_6 HO_39 HB hx295_0 hHeld ⊢
     refine pure_ (i := 0) (N := some 46) (v := ?_) (a' := ?_) #[true, false, false, false, false, false, false, false, false, false, false, false, false, false] rfl rfl (any_of HT_.out (by kernel_rfl)) (fun _ _ _ h => h) (Or.inl ⟨by rfl, ?_⟩) ?_ ?_
     rotate_left
     ·intro w'
      go_simp
      with_reducible rfl
     rotate_left
     ·simp only [Act.put, List.setIfInBounds_toArray, List.set_cons_zero, List.set_cons_succ, i64_w, i32_w]
      rfl
     refine pure_ (i := 1) (N := some 47) (v := ?_) (a' := ?_) #[true, true, false, false, false, false, false, false, false, false, false, false, false, false] rfl rfl (any_of HT_.out (by kernel_rfl)) (fun _ _ _ h => h) (Or.inl ⟨by rfl, ?_⟩) ?_ ?_
     rotate_left
     ·intro w'
      go_simp
      with_reducible rfl
     rotate_left
     ·simp only [Act.put, List.setIfInBounds_toArray, List.set_cons_zero, List.set_cons_succ, i64_w, i32_w]
      rfl
     refine pure_ (i := 2) (N := some 48) (v := ?_) (a' := ?_) #[true, true, true, false, false, false, false, false, false, false, false, false, false, false] rfl rfl (any_of HT_.out (by kernel_rfl)) (fun _ _ _ h => h) (Or.inl ⟨by rfl, ?_⟩) ?_ ?_
     rotate_left
     ·intro w'
      go_simp
      with_reducible rfl
     rotate_left
     ·simp only [Act.put, List.setIfInBounds_toArray, List.set_cons_zero, List.set_cons_succ, i64_w, i32_w]
      rfl
     refine pure_ (i := 4) (N := some 50) (v := ?_) (a' := ?_) #[true, true, true, false, true, false, false, false, false, false, false, false, false, false] rfl rfl (any_of HT_.out (by kernel_rfl)) (fun _ _ _ h => h) (Or.inl ⟨by rfl, ?_⟩) ?_ ?_
     rotate_left
     ·intro w'
      go_simp
      with_reducible rfl
     rotate_left
     ·simp only [Act.put, List.setIfInBounds_toArray, List.set_cons_zero, List.set_cons_succ, i64_w, i32_w]
      rfl
     refine pure_ (i := 5) (N := some 51) (v := ?_) (a' := ?_) #[true, true, true, false, true, true, false, false, false, false, false, false, false, false] rfl rfl (any_of HT_.out (by kernel_rfl)) (fun _ _ _ h => h) (Or.inl ⟨by rfl, ?_⟩) ?_ ?_
     rotate_left
     ·intro w'
      go_simp
      with_reducible rfl
     rotate_left
     ·simp only [Act.put, List.setIfInBounds_toArray, List.set_cons_zero, List.set_cons_succ, i64_w, i32_w]
      rfl
     refine pure_ (i := 6) (N := some 52) (v := ?_) (a' := ?_) #[true, true, true, false, true, true, true, false, false, false, false, false, false, false] rfl rfl (any_of HT_.out (by kernel_rfl)) (fun _ _ _ h => h) (Or.inl ⟨by rfl, ?_⟩) ?_ ?_
     rotate_left
     ·intro w'
      go_simp
      with_reducible rfl
     rotate_left
     ·simp only [Act.put, List.setIfInBounds_toArray, List.set_cons_zero, List.set_cons_succ, i64_w, i32_w]
      rfl
     refine pure_ (i := 8) (N := some 54) (v := ?_) (a' := ?_) #[true, true, true, false, true, true, true, false, true, false, false, false, false, false] rfl rfl (any_of HT_.out (by kernel_rfl)) (fun _ _ _ h => h) (Or.inl ⟨by rfl, ?_⟩) ?_ ?_
     rotate_left
     ·intro w'
      go_simp
      with_reducible rfl
     rotate_left
     ·simp only [Act.put, List.setIfInBounds_toArray, List.set_cons_zero, List.set_cons_succ, i64_w, i32_w]
      rfl
     refine pure_ (i := 9) (N := some 55) (v := ?_) (a' := ?_) #[true, true, true, false, true, true, true, false, true, true, false, false, false, false] rfl rfl (any_of HT_.out (by kernel_rfl)) (fun _ _ _ h => h) (Or.inl ⟨by rfl, ?_⟩) ?_ ?_
     rotate_left
     ·intro w'
      go_simp
      with_reducible rfl
     rotate_left
     ·simp only [Act.put, List.setIfInBounds_toArray, List.set_cons_zero, List.set_cons_succ, i64_w, i32_w]
      rfl
     refine take_ (i := 3) (N := some 49) (v := ?_) (a' := ?_) #[true, true, true, true, true, true, true, false, true, true, false, false, false, false] rfl rfl (take_ofW HT_.out HW_.out (by kernel_rfl)) (fun _ _ _ h => h) (Or.inl ⟨by rfl, ?_⟩) hHeld ?_ ?_
     rotate_left
     ·rintro w' ⟨s0, s1⟩
      go_simp
      with_reducible rfl
     rotate_left
     ·simp only [Act.put, List.setIfInBounds_toArray, List.set_cons_zero, List.set_cons_succ, i64_w, i32_w]
      rfl
     refine take_ (i := 7) (N := some 53) (v := ?_) (a' := ?_) #[true, true, true, true, true, true, true, true, true, true, false, false, false, false] rfl rfl (take_ofW HT_.out HW_.out (by kernel_rfl)) (fun _ _ _ h => h) (Or.inl ⟨by rfl, ?_⟩) hHeld ?_ ?_
     rotate_left
     ·rintro w' ⟨s0, s1⟩
      go_simp
      with_reducible rfl
     rotate_left
     ·simp only [Act.put, List.setIfInBounds_toArray, List.set_cons_zero, List.set_cons_succ, i64_w, i32_w]
      rfl
     refine one_ (i := 10) (N := some 56) #[true, true, true, true, true, true, true, true, true, true, true, false, false, false] rfl rfl (one_of HT_.out (by kernel_rfl)) (by decide) (fun K hK => ?_)
     refine goesF_ Try.func56 (by kernel_rfl) rfl #[.int .u8 t290, .int .u8 (rd x2_1 x41_2), .pointer (some ⟨p_, 0, none⟩), .pointer (some ⟨q_, 0, none⟩)] (by rfl) rfl rfl (by rfl) (by (try simp only [List.map_toArray, List.map_cons, List.map_nil]); first | done | rfl | (simp only [List.length_drop, List.length_take]; rfl) | (simp [Act.eval, IntKind.wrap_u8, IntKind.wrap_u32]; done)) ?_
     with_reducible refine (gN1.calls b_ p_ q_ a0 t290 (rd x2_1 x41_2) t296 _ ?side1 A26.out).mono ?_
     (case side1 => exact (gal_At_below HT0.out HB.out))
     rintro e w' ⟨rfl, ⟨nd, rfl⟩⟩
     refine ⟨_, rfl, ?_⟩
     have p27 : 0 ≤ (x41_2 : Int) := of_decide_eq_true (by first | (with_reducible assumption) | assumption)
     have q27 : (x41_2 : Int) < ((x1_2.length : Int) : Int) := of_decide_eq_true (by first | (with_reducible assumption) | assumption)
     obtain ⟨go27, oo27, co27, eo27, gb27, gl27, cl27, HG27⟩ := Kd.Z_form HO_1.out (by omega)
     (first | cases eo27 | (injection eo27 with ea_ en_ ec_; (first | subst ea_ | (injection ea_ with ea_; subst ea_)); subst ec_; clear en_))
     have GB27 := Aside0.mk gb27
     have GG27 := Aside0.mk HG27
     clear gb27 gl27 HG27
     (first | simp only [add_at] at hx289_0 | skip)
     (first | simp only [add_at] at hx295_0 | skip)
     obtain ⟨hx27_0, hf27_0⟩ := Kd.Z_cell 0 HO_1.out (x41_2 : Int) p27 q27
     replace p27 := eq_true p27
     replace q27 := eq_true q27
     have HP29 := (Kd.Z_putg HO_1.out (x41_2 : Int) (of_decide_eq_true (by first | (with_reducible assumption) | assumption)) (by have h_ : (x41_2 : Int) < ((x1_2.length : Int) : Int) := of_decide_eq_true (by first | (with_reducible assumption) | assumption); first | exact h_ | (have e_ := (Kd.Z_reads' HO_1.out).1; omega) | simpa using h_) (Go.bits .xor .u8 (rd x1_2 x41_2) t296)).1
     rw [← Ny297.out] at HP29
     have HQ29 := Aside0.mk HP29
     clear HP29
     refine hK.out _ _ ⟨hHeld.1, ((HB.out.cell (World.block_lt_of_cell? w _ ho25)).trans ho25)⟩ (fun hHeld => ?_)
     clear hK K
     refine norm_ (a' := ?_) ?_ ?_
     rotate_left
     ·show Act.put _ (some 56) _ = _
      simp only [Act.put, List.setIfInBounds_toArray, List.set_cons_zero, List.set_cons_succ, i64_w, i32_w]
      rfl
     refine pure_ (i := 11) (N := some 57) (v := ?_) (a' := ?_) #[true, true, true, true, true, true, true, true, true, true, true, true, false, false] rfl rfl (any_of HT_.out (by kernel_rfl)) (fun _ _ _ h => h) (Or.inl ⟨by rfl, ?_⟩) ?_ ?_
     rotate_left
     ·intro w'
      go_simp
      with_reducible rfl
     rotate_left
     ·simp only [Act.put, List.setIfInBounds_toArray, List.set_cons_zero, List.set_cons_succ, i64_w, i32_w]
      rfl
     refine pure_ (i := 12) (N := some 58) (v := ?_) (a' := ?_) #[true, true, true, true, true, true, true, true, true, true, true, true, true, false] rfl rfl (any_of HT_.out (by kernel_rfl)) (fun _ _ _ h => h) (Or.inl ⟨by rfl, ?_⟩) ?_ ?_
     rotate_left
     ·intro w'
      go_simp
      with_reducible rfl
     rotate_left
     ·simp only [Act.put, List.setIfInBounds_toArray, List.set_cons_zero, List.set_cons_succ, i64_w, i32_w]
      rfl
     refine last_ (i := 13) (N := none) #[true, true, true, true, true, true, true, true, true, true, true, true, true, true] rfl rfl (one_of HT_.out (by kernel_rfl)) (by decide) (fun K hK => ?_)
     refine skip_ (w1 := ?_) (by rfl) rfl ?_ ?_
     rotate_left
     ·go_simp
      rfl
     refine hK.out _ _ ?_
     clear hK K
     refine done_ (done_of HT_.out (by kernel_rfl)) ?_
     try go_wp2
     (try simp only [← hl1_2])
     go_roundg k2
     case measure => have := HK1.out; have := HK2.out; omega
     case rel => exact ⟨(y297), (wrap64 (x41_2 + 1)), (by first | rfl | (simp; done) | (simp [*]; done) | (simp [wrap64]; done)), H', ⟨by have := HK1.out; have := HK2.out; omega⟩, ⟨by (try simp only [hl2_1]); (try simp only [hl1_2]); (with_reducible repeat (first | apply Kd.Z_alloc | apply Kd.Z_drewN | apply Kd.Z_drew)); exact HQ29.out⟩, ⟨by (try simp only [hl2_1]); (try simp only [hl1_2]); (with_reducible repeat (first | apply Kd.R_alloc | apply Kd.R_drewN | apply Kd.R_drew)); exact Kd.R_mono (Kd.R_far (p := ⟨go27, oo27 + (x41_2 : Int).toNat, none⟩) (Kd.R_mono HO_2.out (fun k_ hk => (⟨hk, fun e_ => hk.1 (by rw [e_]; rfl)⟩ : _ ∧ k_ ≠ go27))) (fun _ hk => hk.2) (.int .u8 (Go.bits .xor .u8 (rd x1_2 x41_2) t296))) (fun _ hk => ⟨hk.1.1, hk.1.2⟩)⟩, ⟨by (try simp only [hl2_1]); (try simp only [hl1_2]); (with_reducible repeat (first | apply Kd.R_alloc | apply Kd.R_drewN | apply Kd.R_drew)); exact Kd.R_mono (Kd.R_far (p := ⟨go27, oo27 + (x41_2 : Int).toNat, none⟩) (Kd.R_mono HO_6.out (fun k_ hk => (⟨hk, fun e_ => hk.1 (by rw [e_]; rfl)⟩ : _ ∧ k_ ≠ go27))) (fun _ hk => hk.2) (.int .u8 (Go.bits .xor .u8 (rd x1_2 x41_2) t296))) (fun _ hk => ⟨hk.1.1, ⟨hk.1.2.1, hk.1.2.2⟩⟩)⟩, ⟨by (try simp only [hl2_1]); (try simp only [hl1_2]); (with_reducible repeat (first | apply Kd.R_alloc | apply Kd.R_drewN | apply Kd.R_drew)); exact Kd.R_mono (Kd.R_far (p := ⟨go27, oo27 + (x41_2 : Int).toNat, none⟩) (Kd.R_mono HO_39.out (fun k_ hk => (⟨hk, fun e_ => hk.1 (by rw [e_]; rfl)⟩ : _ ∧ k_ ≠ go27))) (fun _ hk => hk.2) (.int .u8 (Go.bits .xor .u8 (rd x1_2 x41_2) t296))) (fun _ hk => ⟨hk.1.1, hk.1.2⟩)⟩, ⟨by repeat (first | (with_reducible first | exact HB.out | apply below_alloc | apply pw_below_drewN | apply below_drew1 | refine below_set ?_ GB27.out) | exact HB.out)⟩⟩
def gT_Divide.f (k : Nat) (a0 : GTab) (l1 : List Int) (l2 : List Int) : Option (List Int × List Int × Int) := (gT_lists.f k a0 (([l1, l2] : List (List Int)))).bind fun t304 => (if t304 = 0 then ((galois_trim.f l2).bind fun t305 => (if (t305.length : Int) = 0 then (some (([] : List Int), ([] : List Int), 20)) else ((gT_divide.f k a0 l1 l2).bind fun bt308 => (some (bt308.1, bt308.2, 0))))) else (some (([] : List Int), ([] : List Int), t304)))
theorem gT_Divide.mono : ∀ a0 a1 a2 k, LeO (gT_Divide.f k a0 a1 a2) (gT_Divide.f (k + 1) a0 a1 a2) := by
 intro a0 a1 a2 k
 unfold gT_Divide.f
 repeat' first
   | (with_reducible exact gT_divide.mono _ _ _ _)
   | (with_reducible exact gT_lists.mono _ _ _)
   | (with_reducible exact LeO.refl _)
   | (with_reducible exact LeO.none _)
   | (with_reducible refine LeO.ite ?_ ?_)
   | (with_reducible refine LeO.bind ?_ (fun _ => ?_))
set_option maxHeartbeats 8000000 in
set_option maxRecDepth 100000 in
theorem gT_Divide.calls (k : Nat) (A0 : Option Addr) (a0 : GTab) (P1_ : Nat → Prop) (A1 : Option Addr) (c1 : Nat) (l1 : List Int) (P2_ : Nat → Prop) (A2 : Option Addr) (c2 : Nat) (l2 : List Int) (r1 : List Int) (r2 : List Int) (r3 : Int) (w : World) (hr0 : gal_OK w A0 a0) (hs1 : Kd.V (Kd.int .u8) 5 w w.heap.size (fun k_ => P1_ k_) (.slice A1 l1.length c1) l1) (hs2 : Kd.V (Kd.int .u8) 5 w w.heap.size (fun k_ => P2_ k_) (.slice A2 l2.length c2) l2) (h : gT_Divide.f k a0 l1 l2 = some (r1, r2, r3)) :
  Calls Try.prog 19 #[.pointer A0, .slice A1 l1.length c1, .slice A2 l2.length c2] w fun e w' => ∃ v0_ v1_ : Value, e = .returned (.tuple #[v0_, v1_, .int .i64 r3]) ∧ Kd.R (Kd.int .u8) 5 w' w.heap.size (fun k_ => (w.heap.size ≤ k_) ∧ some k_ ≠ (v1_ : Value).ownBlock) v0_ r1 ∧ Kd.R (Kd.int .u8) 5 w' w.heap.size (fun k_ => (w.heap.size ≤ k_) ∧ some k_ ≠ (v0_ : Value).ownBlock) v1_ r2 ∧ Below w.heap.size w w' := by
 have HR0 := Aside0.mk hr0
 clear hr0
 have HO1 := aK (show Kd.V (Kd.int .u8) 5 w w.heap.size (fun k_ => ((P1_ k_ ∨ P2_ k_) ∨ w.heap.size ≤ k_)) (.slice A1 l1.length c1) l1 from Kd.V_mono hs1 (fun k_ hk => .inl (.inl hk)))
 have HO2 := aK (show Kd.V (Kd.int .u8) 5 w w.heap.size (fun k_ => ((P1_ k_ ∨ P2_ k_) ∨ w.heap.size ≤ k_)) (.slice A2 l2.length c2) l2 from Kd.V_mono hs2 (fun k_ hk => .inl (.inr hk)))
 have HB := aK (Below.refl w.heap.size w)
 have H : ((gT_lists.f k a0 (([l1, l2] : List (List Int)))).bind fun t304 => (if t304 = 0 then ((galois_trim.f l2).bind fun t305 => (if (t305.length : Int) = 0 then (some (([] : List Int), ([] : List Int), 20)) else ((gT_divide.f k a0 l1 l2).bind fun bt308 => (some (bt308.1, bt308.2, 0))))) else (some (([] : List Int), ([] : List Int), t304)))) = some (r1, r2, r3) := h
 clear h
 obtain ⟨y301, hy301⟩ : ∃ y_ : List (List Int), y_ = (([l1, l2] : List (List Int))) := ⟨_, rfl⟩
 replace H : ((gT_lists.f k a0 y301).bind fun t304 => (if t304 = 0 then ((galois_trim.f l2).bind fun t305 => (if (t305.length : Int) = 0 then (some (([] : List Int), ([] : List Int), 20)) else ((gT_divide.f k a0 l1 l2).bind fun bt308 => (some (bt308.1, bt308.2, 0))))) else (some (([] : List Int), ([] : List Int), t304)))) = some (r1, r2, r3) := by rw [hy301]; exact H
 have Ny301 := Aside0.mk hy301
 clear hy301
 replace H := Option.bind_eq_some_iff.mp H
 obtain ⟨t304, A40, H⟩ := H
 try dsimp only at H
 have A4 := Aside0.mk A40
 clear A40
 by_cases c5 : t304 = 0
 rotate_left
 ·rw [if_neg c5] at H
  have c5b0 : (t304 == 0) = false := beq_eq_false_iff_ne.mpr c5
  have c5b1 : (t304 != 0) = true := bne_iff_ne.mpr c5
  simp only [Option.some.injEq, Prod.mk.injEq] at H
  obtain ⟨rfl, rfl, rfl⟩ := H
  go_enter Try.func19, Try.ntmps19
  go_wp2_with (first | ((with_reducible refine gate_dst (N := 13) rfl ?_); refine Kd.N_lit (Kd.slice 5 (Kd.int .u8)) _ 25 ?hg (N' := 13) ?hd (xs := ([l1, l2] : List (List Int))) (inner := [.slice A1 l1.length c1, .slice A2 l2.length c2]) (ok := (fun k_ => ((P1_ k_ ∨ P2_ k_) ∨ w.heap.size ≤ k_))) (okp := (fun k_ => ((P1_ k_ ∨ P2_ k_) ∨ w.heap.size ≤ k_))) ?hr ?hp (fun _ hk => hk) ((show ∀ k_, w.heap.size ≤ k_ → (fun k_ => ((P1_ k_ ∨ P2_ k_) ∨ w.heap.size ≤ k_)) k_ from fun k_ hk => (.inr (Nat.le_trans (below_size (mvh HB.out)) hk))) _ (Nat.le_refl _)) (Below.refl _ _) (Nat.le_refl _) (by simp) ?_; (case hd => rfl); (case hg => rfl); (case hr => first | (go_simp; done) | (go_simp; rfl)); (case hp => exact (Reps.one (show Kd.FK (Kd.slice 5 (Kd.int .u8)) _ _ l1 [.slice A1 l1.length c1] from (Kd.FK_slice_mk (Kd.V_reads' (Kd.V_mono (ok' := (fun k_ => ((P1_ k_ ∨ P2_ k_) ∨ w.heap.size ≤ k_))) (HO1.out) (fun k_ hk => hk))).2.1 (Kd.V_F (Kd.V_mono (ok' := (fun k_ => ((P1_ k_ ∨ P2_ k_) ∨ w.heap.size ≤ k_))) (HO1.out) (fun k_ hk => hk))))) (Reps.one (show Kd.FK (Kd.slice 5 (Kd.int .u8)) _ _ l2 [.slice A2 l2.length c2] from (Kd.FK_slice_mk (Kd.V_reads' (Kd.V_mono (ok' := (fun k_ => ((P1_ k_ ∨ P2_ k_) ∨ w.heap.size ≤ k_))) (HO2.out) (fun k_ hk => hk))).2.1 (Kd.V_F (Kd.V_mono (ok' := (fun k_ => ((P1_ k_ ∨ P2_ k_) ∨ w.heap.size ≤ k_))) (HO2.out) (fun k_ hk => hk))))) (Reps.none _ _)))); intro v302 w20 ho21 hb hg_ hnew_; clear hg_ hnew_; (first | rw [← Ny301.out] at ho21 | (simp only [Int.reduceToNat] at ho21; rw [← Ny301.out] at ho21)); have n0_ := aK (Kd.V_elder' (by (with_reducible repeat (first | apply Kd.V_alloc | apply Kd.V_drewN | apply Kd.V_drew)); exact HO1.out) (Kd.N_base ho21) hb); have n1_ := aK (Kd.V_elder' (by (with_reducible repeat (first | apply Kd.V_alloc | apply Kd.V_drewN | apply Kd.V_drew)); exact HO2.out) (Kd.N_base ho21) hb); have n2_ := aK (Kd.N_lower ho21 (below_size (mvh HB.out))); have n3_ := aK (below_step (mvh HB.out) hb); clear HO1 HO2 HB; have HO1 := n0_; have HO2 := n1_; have HO303 := n2_; have HB := n3_; clear n0_ n1_ n2_ n3_; clear hb ho21; obtain ⟨Ao22, co22, eo22⟩ := Kd.N_slice HO303.out; subst eo22) | (go_at_call 39; (with_reducible refine (gT_lists.calls k _ a0 _ _ y301 t304 _ ?side1 ?side2 ?side3 A4.out).mono ?_); (case side1 => exact (gal_OK_below HR0.out HB.out)); (case side2 => exact mvC (Kd.N_reads' HO303.out).2.2); (case side3 => exact (Kd.N_reads' HO303.out).2.1); rintro e w' ⟨rfl, ⟨nd, rfl⟩⟩))
  go_ret3
  exact ⟨_, _, by first | rfl | (simp [errW_none, errW_some] <;> rfl) | (simp [*, errW_none, errW_some] <;> rfl), by first | exact Kd.R_nil _ _ _ _ _ | exact Kd.N_nil _ _ _ _ _ | exact Kd.V_nil _ _ _ _ _ | exact Kd.Q_nil _ _ _ _ _ | exact Kd.S_nil _ _ _ _ _, by first | exact Kd.R_nil _ _ _ _ _ | exact Kd.N_nil _ _ _ _ _ | exact Kd.V_nil _ _ _ _ _ | exact Kd.Q_nil _ _ _ _ _ | exact Kd.S_nil _ _ _ _ _, mvh HB.out⟩

 rw [if_pos c5] at H
 have c5b0 : (t304 == 0) = true := beq_iff_eq.mpr c5
 have c5b1 : (t304 != 0) = false := bne_eq_false_iff_eq.mpr c5
 clear c5
 replace H := Option.bind_eq_some_iff.mp H
 obtain ⟨t305, A60, H⟩ := H
 try dsimp only at H
 have A6 := Aside0.mk A60
 clear A60
 by_cases c7 : (t305.length : Int) = 0
 ·rw [if_pos c7] at H
  have c7b0 : ((t305.length : Int) == 0) = true := beq_iff_eq.mpr c7
  have c7b1 : ((t305.length : Int) != 0) = false := bne_eq_false_iff_eq.mpr c7
  clear c7
  simp only [Option.some.injEq, Prod.mk.injEq] at H
  obtain ⟨rfl, rfl, rfl⟩ := H
  go_enter Try.func19, Try.ntmps19
  go_wp2_with (first | ((with_reducible refine gate_dst (N := 13) rfl ?_); refine Kd.N_lit (Kd.slice 5 (Kd.int .u8)) _ 25 ?hg (N' := 13) ?hd (xs := ([l1, l2] : List (List Int))) (inner := [.slice A1 l1.length c1, .slice A2 l2.length c2]) (ok := (fun k_ => ((P1_ k_ ∨ P2_ k_) ∨ w.heap.size ≤ k_))) (okp := (fun k_ => ((P1_ k_ ∨ P2_ k_) ∨ w.heap.size ≤ k_))) ?hr ?hp (fun _ hk => hk) ((show ∀ k_, w.heap.size ≤ k_ → (fun k_ => ((P1_ k_ ∨ P2_ k_) ∨ w.heap.size ≤ k_)) k_ from fun k_ hk => (.inr (Nat.le_trans (below_size (mvh HB.out)) hk))) _ (Nat.le_refl _)) (Below.refl _ _) (Nat.le_refl _) (by simp) ?_; (case hd => rfl); (case hg => rfl); (case hr => first | (go_simp; done) | (go_simp; rfl)); (case hp => exact (Reps.one (show Kd.FK (Kd.slice 5 (Kd.int .u8)) _ _ l1 [.slice A1 l1.length c1] from (Kd.FK_slice_mk (Kd.V_reads' (Kd.V_mono (ok' := (fun k_ => ((P1_ k_ ∨ P2_ k_) ∨ w.heap.size ≤ k_))) (HO1.out) (fun k_ hk => hk))).2.1 (Kd.V_F (Kd.V_mono (ok' := (fun k_ => ((P1_ k_ ∨ P2_ k_) ∨ w.heap.size ≤ k_))) (HO1.out) (fun k_ hk => hk))))) (Reps.one (show Kd.FK (Kd.slice 5 (Kd.int .u8)) _ _ l2 [.slice A2 l2.length c2] from (Kd.FK_slice_mk (Kd.V_reads' (Kd.V_mono (ok' := (fun k_ => ((P1_ k_ ∨ P2_ k_) ∨ w.heap.size ≤ k_))) (HO2.out) (fun k_ hk => hk))).2.1 (Kd.V_F (Kd.V_mono (ok' := (fun k_ => ((P1_ k_ ∨ P2_ k_) ∨ w.heap.size ≤ k_))) (HO2.out) (fun k_ hk => hk))))) (Reps.none _ _)))); intro v302 w8 ho9 hb hg_ hnew_; clear hg_ hnew_; (first | rw [← Ny301.out] at ho9 | (simp only [Int.reduceToNat] at ho9; rw [← Ny301.out] at ho9)); have n0_ := aK (Kd.V_elder' (by (with_reducible repeat (first | apply Kd.V_alloc | apply Kd.V_drewN | apply Kd.V_drew)); exact HO1.out) (Kd.N_base ho9) hb); have n1_ := aK (Kd.V_elder' (by (with_reducible repeat (first | apply Kd.V_alloc | apply Kd.V_drewN | apply Kd.V_drew)); exact HO2.out) (Kd.N_base ho9) hb); have n2_ := aK (Kd.N_lower ho9 (below_size (mvh HB.out))); have n3_ := aK (below_step (mvh HB.out) hb); clear HO1 HO2 HB; have HO1 := n0_; have HO2 := n1_; have HO303 := n2_; have HB := n3_; clear n0_ n1_ n2_ n3_; clear hb ho9; obtain ⟨Ao10, co10, eo10⟩ := Kd.N_slice HO303.out; subst eo10) | (go_at_call 39; (with_reducible refine (gT_lists.calls k _ a0 _ _ y301 t304 _ ?side1 ?side2 ?side3 A4.out).mono ?_); (case side1 => exact (gal_OK_below HR0.out HB.out)); (case side2 => exact mvC (Kd.N_reads' HO303.out).2.2); (case side3 => exact (Kd.N_reads' HO303.out).2.1); rintro e w' ⟨rfl, ⟨nd, rfl⟩⟩) | (go_at_call 52; (with_reducible refine (galois_trim.calls _ _ l2 t305 _ ?side1 ?side2 A6.out).mono ?_); (case side1 => exact mvC (Kd.V_reads' HO2.out).2.2); (case side2 => exact (Kd.V_reads' HO2.out).2.1); rintro e w11 ⟨v306, rfl, ho0, hb⟩; have n0_ := aK (Kd.V_elder' (by (with_reducible repeat (first | apply Kd.V_alloc | apply Kd.V_drewN | apply Kd.V_drew)); exact HO1.out) (Kd.R_base ho0) hb); have n1_ := aK (Kd.V_elder' (by (with_reducible repeat (first | apply Kd.V_alloc | apply Kd.V_drewN | apply Kd.V_drew)); exact HO2.out) (Kd.R_base ho0) hb); have n2_ := aK (Kd.N_elder' (by (with_reducible repeat (first | apply Kd.N_alloc | apply Kd.N_drewN | apply Kd.N_drew)); exact HO303.out) (Kd.R_base ho0) hb); have n3_ := aK (Kd.R_lower (Kd.R_newM (M := fun k_ => (w.heap.size ≤ k_)) ho0 (below_size (mvh HB.out)) (fun k_ h_ => h_)) (below_size (mvh HB.out))); have n4_ := aK (below_step (mvh HB.out) hb); clear HO1 HO2 HO303 HB; have HO1 := n0_; have HO2 := n1_; have HO303 := n2_; have HO307 := n3_; have HB := n4_; clear n0_ n1_ n2_ n3_ n4_; (try clear hb); (try clear ho0); obtain ⟨Ao12, co12, eo12⟩ := Kd.R_slice HO307.out; subst eo12))
  go_ret3
  exact ⟨_, _, by first | rfl | (simp [errW_none, errW_some] <;> rfl) | (simp [*, errW_none, errW_some] <;> rfl), by first | exact Kd.R_nil _ _ _ _ _ | exact Kd.N_nil _ _ _ _ _ | exact Kd.V_nil _ _ _ _ _ | exact Kd.Q_nil _ _ _ _ _ | exact Kd.S_nil _ _ _ _ _, by first | exact Kd.R_nil _ _ _ _ _ | exact Kd.N_nil _ _ _ _ _ | exact Kd.V_nil _ _ _ _ _ | exact Kd.Q_nil _ _ _ _ _ | exact Kd.S_nil _ _ _ _ _, mvh HB.out⟩
 ·rw [if_neg c7] at H
  have c7b0 : ((t305.length : Int) == 0) = false := beq_eq_false_iff_ne.mpr c7
  have c7b1 : ((t305.length : Int) != 0) = true := bne_iff_ne.mpr c7
  have c7b2 : ¬ (t305 = []) := fun h_ => c7 (by rw [h_]; rfl)
  replace H := Option.bind_eq_some_iff.mp H
  obtain ⟨⟨t308, t309⟩, A130, H⟩ := H
  try dsimp only at H
  have A13 := Aside0.mk A130
  clear A130
  simp only [Option.some.injEq, Prod.mk.injEq] at H
  obtain ⟨rfl, rfl, rfl⟩ := H
  go_enter Try.func19, Try.ntmps19
  go_wp2_with (first | ((with_reducible refine gate_dst (N := 13) rfl ?_); refine Kd.N_lit (Kd.slice 5 (Kd.int .u8)) _ 25 ?hg (N' := 13) ?hd (xs := ([l1, l2] : List (List Int))) (inner := [.slice A1 l1.length c1, .slice A2 l2.length c2]) (ok := (fun k_ => ((P1_ k_ ∨ P2_ k_) ∨ w.heap.size ≤ k_))) (okp := (fun k_ => ((P1_ k_ ∨ P2_ k_) ∨ w.heap.size ≤ k_))) ?hr ?hp (fun _ hk => hk) ((show ∀ k_, w.heap.size ≤ k_ → (fun k_ => ((P1_ k_ ∨ P2_ k_) ∨ w.heap.size ≤ k_)) k_ from fun k_ hk => (.inr (Nat.le_trans (below_size (mvh HB.out)) hk))) _ (Nat.le_refl _)) (Below.refl _ _) (Nat.le_refl _) (by simp) ?_; (case hd => rfl); (case hg => rfl); (case hr => first | (go_simp; done) | (go_simp; rfl)); (case hp => exact (Reps.one (show Kd.FK (Kd.slice 5 (Kd.int .u8)) _ _ l1 [.slice A1 l1.length c1] from (Kd.FK_slice_mk (Kd.V_reads' (Kd.V_mono (ok' := (fun k_ => ((P1_ k_ ∨ P2_ k_) ∨ w.heap.size ≤ k_))) (HO1.out) (fun k_ hk => hk))).2.1 (Kd.V_F (Kd.V_mono (ok' := (fun k_ => ((P1_ k_ ∨ P2_ k_) ∨ w.heap.size ≤ k_))) (HO1.out) (fun k_ hk => hk))))) (Reps.one (show Kd.FK (Kd.slice 5 (Kd.int .u8)) _ _ l2 [.slice A2 l2.length c2] from (Kd.FK_slice_mk (Kd.V_reads' (Kd.V_mono (ok' := (fun k_ => ((P1_ k_ ∨ P2_ k_) ∨ w.heap.size ≤ k_))) (HO2.out) (fun k_ hk => hk))).2.1 (Kd.V_F (Kd.V_mono (ok' := (fun k_ => ((P1_ k_ ∨ P2_ k_) ∨ w.heap.size ≤ k_))) (HO2.out) (fun k_ hk => hk))))) (Reps.none _ _)))); intro v302 w14 ho15 hb hg_ hnew_; clear hg_ hnew_; (first | rw [← Ny301.out] at ho15 | (simp only [Int.reduceToNat] at ho15; rw [← Ny301.out] at ho15)); have n0_ := aK (Kd.V_elder' (by (with_reducible repeat (first | apply Kd.V_alloc | apply Kd.V_drewN | apply Kd.V_drew)); exact HO1.out) (Kd.N_base ho15) hb); have n1_ := aK (Kd.V_elder' (by (with_reducible repeat (first | apply Kd.V_alloc | apply Kd.V_drewN | apply Kd.V_drew)); exact HO2.out) (Kd.N_base ho15) hb); have n2_ := aK (Kd.N_lower ho15 (below_size (mvh HB.out))); have n3_ := aK (below_step (mvh HB.out) hb); clear HO1 HO2 HB; have HO1 := n0_; have HO2 := n1_; have HO303 := n2_; have HB := n3_; clear n0_ n1_ n2_ n3_; clear hb ho15; obtain ⟨Ao16, co16, eo16⟩ := Kd.N_slice HO303.out; subst eo16) | (go_at_call 39; (with_reducible refine (gT_lists.calls k _ a0 _ _ y301 t304 _ ?side1 ?side2 ?side3 A4.out).mono ?_); (case side1 => exact (gal_OK_below HR0.out HB.out)); (case side2 => exact mvC (Kd.N_reads' HO303.out).2.2); (case side3 => exact (Kd.N_reads' HO303.out).2.1); rintro e w' ⟨rfl, ⟨nd, rfl⟩⟩) | (go_at_call 52; (with_reducible refine (galois_trim.calls _ _ l2 t305 _ ?side1 ?side2 A6.out).mono ?_); (case side1 => exact mvC (Kd.V_reads' HO2.out).2.2); (case side2 => exact (Kd.V_reads' HO2.out).2.1); rintro e w17 ⟨v306, rfl, ho0, hb⟩; have n0_ := aK (Kd.V_elder' (by (with_reducible repeat (first | apply Kd.V_alloc | apply Kd.V_drewN | apply Kd.V_drew)); exact HO1.out) (Kd.R_base ho0) hb); have n1_ := aK (Kd.V_elder' (by (with_reducible repeat (first | apply Kd.V_alloc | apply Kd.V_drewN | apply Kd.V_drew)); exact HO2.out) (Kd.R_base ho0) hb); have n2_ := aK (Kd.N_elder' (by (with_reducible repeat (first | apply Kd.N_alloc | apply Kd.N_drewN | apply Kd.N_drew)); exact HO303.out) (Kd.R_base ho0) hb); have n3_ := aK (Kd.R_lower (Kd.R_newM (M := fun k_ => (w.heap.size ≤ k_)) ho0 (below_size (mvh HB.out)) (fun k_ h_ => h_)) (below_size (mvh HB.out))); have n4_ := aK (below_step (mvh HB.out) hb); clear HO1 HO2 HO303 HB; have HO1 := n0_; have HO2 := n1_; have HO303 := n2_; have HO307 := n3_; have HB := n4_; clear n0_ n1_ n2_ n3_ n4_; (try clear hb); (try clear ho0); obtain ⟨Ao18, co18, eo18⟩ := Kd.R_slice HO307.out; subst eo18) | (go_at_call 53; (with_reducible refine (gT_divide.calls k _ a0 _ _ l1 _ _ l2 t308 t309 _ ?side1 ?side2 ?side3 ?side4 ?side5 A13.out).mono ?_); (case side1 => exact (gal_OK_below HR0.out HB.out)); (case side2 => exact mvC (Kd.V_reads' HO1.out).2.2); (case side3 => exact (Kd.V_reads' HO1.out).2.1); (case side4 => exact mvC (Kd.V_reads' HO2.out).2.2); (case side5 => exact (Kd.V_reads' HO2.out).2.1); rintro e w19 ⟨v310, v312, rfl, ho0, ho1, hb⟩; have n0_ := aK (Kd.V_mono (Kd.V_told (Kd.V_told (Kd.V_old (by (with_reducible repeat (first | apply Kd.V_alloc | apply Kd.V_drewN | apply Kd.V_drew)); exact HO1.out) hb) (Kd.R_base ho0)) (Kd.R_base ho1)) (fun _ h_ => h_.1)); have n1_ := aK (Kd.V_mono (Kd.V_told (Kd.V_told (Kd.V_old (by (with_reducible repeat (first | apply Kd.V_alloc | apply Kd.V_drewN | apply Kd.V_drew)); exact HO2.out) hb) (Kd.R_base ho0)) (Kd.R_base ho1)) (fun _ h_ => h_.1)); have n2_ := aK (Kd.N_mono (Kd.N_told (Kd.N_told (Kd.N_old (by (with_reducible repeat (first | apply Kd.N_alloc | apply Kd.N_drewN | apply Kd.N_drew)); exact HO303.out) hb) (Kd.R_base ho0)) (Kd.R_base ho1)) (fun _ h_ => h_.1)); have n3_ := aK (Kd.R_mono (Kd.R_told (Kd.R_told (Kd.R_old (mvR HO307.out) hb) (Kd.R_base ho0)) (Kd.R_base ho1)) (fun _ h_ => h_.1)); have n4_ := aK (Kd.R_lower (Kd.R_new' (Kd.R_newM (M := fun k_ => (w.heap.size ≤ k_)) ho0 (below_size (mvh HB.out)) (fun k_ h_ => h_)) (Kd.R_lt (mvR HO307.out))) (below_size (mvh HB.out))); have n5_ := aK (Kd.R_lower (Kd.R_new' (Kd.R_newM (M := fun k_ => (w.heap.size ≤ k_)) ho1 (below_size (mvh HB.out)) (fun k_ h_ => h_)) (Kd.R_lt (mvR HO307.out))) (below_size (mvh HB.out))); have n6_ := aK (below_step (mvh HB.out) hb); clear HO1 HO2 HO303 HO307 HB; have HO1 := n0_; have HO2 := n1_; have HO303 := n2_; have HO307 := n3_; have HO311 := n4_; have HO313 := n5_; have HB := n6_; clear n0_ n1_ n2_ n3_ n4_ n5_ n6_; (try clear hb); (try clear ho0); (try clear ho1)))
  go_ret3
  exact ⟨_, _, by first | rfl | (simp [errW_none, errW_some] <;> rfl) | (simp [*, errW_none, errW_some] <;> rfl), by (with_reducible repeat (first | apply Kd.R_alloc | apply Kd.R_drewN | apply Kd.R_drew)); exact Kd.R_mono HO311.out (fun _ hk => ⟨hk.1.1, hk.1.2⟩), by (with_reducible repeat (first | apply Kd.R_alloc | apply Kd.R_drewN | apply Kd.R_drew)); exact Kd.R_mono HO313.out (fun _ hk => ⟨hk.1.1, hk.1.2⟩), mvh HB.out⟩
end Go.Proofs.Ytjdkamhnbheofaa.P

-- squeezed
