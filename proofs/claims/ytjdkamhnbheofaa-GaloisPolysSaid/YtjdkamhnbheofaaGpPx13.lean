-- written by mk.sh, a program of this session, over the kit's print
import Derived.Test.YtjdkamhnbheofaaGpPx0
import Derived.Test.YtjdkamhnbheofaaGpPx2
import Derived.Test.YtjdkamhnbheofaaGpPx5
import Derived.Test.YtjdkamhnbheofaaGpPx6
import Derived.Test.YtjdkamhnbheofaaGpPx7
import Derived.Test.YtjdkamhnbheofaaGpPx12
namespace Go.Proofs.Ytjdkamhnbheofaa.P
open Go.RowKit Go.Proofs.YtjdkamhnbheofaaW.PrintWords Go.Proofs.YtjdkamhnbheofaaW.PrintLast Go.Proofs.YtjdkamhnbheofaaW.PrintMore
attribute [local go_sem] max2_int min2_int max_two min_two max_three min_three max_four min_four   -- for this text's walks alone
set_option linter.unusedVariables false
set_option linter.unusedSimpArgs false

def gT_Derive.l0 : Nat → List Int → List Int → Int → Int → Option (List Int × Int)
 | 0, _, _, _, _ => none
 | k + 1, x1, x7, x22, x23 => if x23 < x22 then (if (Int.tmod (wrap64 ((wrap64 ((x1.length : Int) - 1)) - x23)) 2) = 1 then (if 0 ≤ x23 then (if x23 < (x1.length : Int) then (if x23 < (x7.length : Int) then (gT_Derive.l0 k x1 (x7.set (x23 : Int).toNat (rd x1 x23)) x22 (wrap64 (x23 + 1))) else (none)) else (none)) else (none)) else (gT_Derive.l0 k x1 x7 x22 (wrap64 (x23 + 1)))) else ((galois_trim.f x7).bind fun t452 => (some (t452, 0)))
def gT_Derive.f (k : Nat) (a0 : GTab) (l1 : List Int) : Option (List Int × Int) := (gT_lists.f k a0 (([l1] : List (List Int)))).bind fun t446 => (if t446 = 0 then (if 0 ≤ (mx 0 (wrap64 ((l1.length : Int) - 1))) then (if (mx 0 (wrap64 ((l1.length : Int) - 1)) : Int).toNat ≤ 281474976710656 then ((some (List.replicate (mx 0 (wrap64 ((l1.length : Int) - 1)) : Int).toNat 0 : List Int)).bind fun y447 => (gT_Derive.l0 k l1 y447 (y447.length : Int) 0)) else (none)) else (none)) else (some (([] : List Int), t446)))
theorem gT_Derive.mono_l : ∀ k, (∀ y0 y1 y2 y3, LeO (gT_Derive.l0 k y0 y1 y2 y3) (gT_Derive.l0 (k + 1) y0 y1 y2 y3))
 | 0 => fun _ _ _ _ r h => by simp [gT_Derive.l0] at h
 | k + 1 => by
  have ih0 := gT_Derive.mono_l k
  ·intro y0 y1 y2 y3
   unfold gT_Derive.l0
   repeat' first
   | (with_reducible exact ih0 _ _ _ _)
   | (with_reducible exact gT_lists.mono _ _ _)
   | (with_reducible exact LeO.refl _)
   | (with_reducible exact LeO.none _)
   | (with_reducible refine LeO.ite ?_ ?_)
   | (with_reducible refine LeO.bind ?_ (fun _ => ?_))
theorem gT_Derive.mono : ∀ a0 a1 k, LeO (gT_Derive.f k a0 a1) (gT_Derive.f (k + 1) a0 a1) := by
 intro a0 a1 k
 have ih0 := gT_Derive.mono_l k
 unfold gT_Derive.f
 repeat' first
   | (with_reducible exact ih0 _ _ _ _)
   | (with_reducible exact gT_lists.mono _ _ _)
   | (with_reducible exact LeO.refl _)
   | (with_reducible exact LeO.none _)
   | (with_reducible refine LeO.ite ?_ ?_)
   | (with_reducible refine LeO.bind ?_ (fun _ => ?_))
set_option maxHeartbeats 8000000 in
set_option maxRecDepth 100000 in
theorem gT_Derive.calls (k : Nat) (A0 : Option Addr) (a0 : GTab) (P1_ : Nat → Prop) (A1 : Option Addr) (c1 : Nat) (l1 : List Int) (r1 : List Int) (r2 : Int) (w : World) (hr0 : gal_OK w A0 a0) (hs1 : Kd.V (Kd.int .u8) 5 w w.heap.size (fun k_ => P1_ k_) (.slice A1 l1.length c1) l1) (h : gT_Derive.f k a0 l1 = some (r1, r2)) :
  Calls Try.prog 24 #[.pointer A0, .slice A1 l1.length c1] w fun e w' => ∃ v0_ : Value, e = .returned (.tuple #[v0_, .int .i64 r2]) ∧ Kd.R (Kd.int .u8) 5 w' w.heap.size (fun k_ => (w.heap.size ≤ k_)) v0_ r1 ∧ Below w.heap.size w w' := by
 have HR0 := Aside0.mk hr0
 clear hr0
 have HO1 := aK (show Kd.V (Kd.int .u8) 5 w w.heap.size (fun k_ => (P1_ k_ ∨ w.heap.size ≤ k_)) (.slice A1 l1.length c1) l1 from Kd.V_mono hs1 (fun k_ hk => .inl hk))
 have HB := aK (Below.refl w.heap.size w)
 have H : ((gT_lists.f k a0 (([l1] : List (List Int)))).bind fun t446 => (if t446 = 0 then (if 0 ≤ (mx 0 (wrap64 ((l1.length : Int) - 1))) then (if (mx 0 (wrap64 ((l1.length : Int) - 1)) : Int).toNat ≤ 281474976710656 then ((some (List.replicate (mx 0 (wrap64 ((l1.length : Int) - 1)) : Int).toNat 0 : List Int)).bind fun y447 => (gT_Derive.l0 k l1 y447 (y447.length : Int) 0)) else (none)) else (none)) else (some (([] : List Int), t446)))) = some (r1, r2) := h
 clear h
 obtain ⟨y443, hy443⟩ : ∃ y_ : List (List Int), y_ = (([l1] : List (List Int))) := ⟨_, rfl⟩
 replace H : ((gT_lists.f k a0 y443).bind fun t446 => (if t446 = 0 then (if 0 ≤ (mx 0 (wrap64 ((l1.length : Int) - 1))) then (if (mx 0 (wrap64 ((l1.length : Int) - 1)) : Int).toNat ≤ 281474976710656 then ((some (List.replicate (mx 0 (wrap64 ((l1.length : Int) - 1)) : Int).toNat 0 : List Int)).bind fun y447 => (gT_Derive.l0 k l1 y447 (y447.length : Int) 0)) else (none)) else (none)) else (some (([] : List Int), t446)))) = some (r1, r2) := by rw [hy443]; exact H
 have Ny443 := Aside0.mk hy443
 clear hy443
 replace H := Option.bind_eq_some_iff.mp H
 obtain ⟨t446, A30, H⟩ := H
 try dsimp only at H
 have A3 := Aside0.mk A30
 clear A30
 by_cases c4 : t446 = 0
 rotate_left
 ·rw [if_neg c4] at H
  have c4b0 : (t446 == 0) = false := beq_eq_false_iff_ne.mpr c4
  have c4b1 : (t446 != 0) = true := bne_iff_ne.mpr c4
  simp only [Option.some.injEq, Prod.mk.injEq] at H
  obtain ⟨rfl, rfl⟩ := H
  go_enter Try.func24, Try.ntmps24
  go_wp2_with (first | ((with_reducible refine gate_dst (N := 11) rfl ?_); refine Kd.N_lit (Kd.slice 5 (Kd.int .u8)) _ 25 ?hg (N' := 11) ?hd (xs := ([l1] : List (List Int))) (inner := [.slice A1 l1.length c1]) (ok := (fun k_ => (P1_ k_ ∨ w.heap.size ≤ k_))) (okp := (fun k_ => (P1_ k_ ∨ w.heap.size ≤ k_))) ?hr ?hp (fun _ hk => hk) ((show ∀ k_, w.heap.size ≤ k_ → (fun k_ => (P1_ k_ ∨ w.heap.size ≤ k_)) k_ from fun k_ hk => (.inr (Nat.le_trans (below_size (mvh HB.out)) hk))) _ (Nat.le_refl _)) (Below.refl _ _) (Nat.le_refl _) (by simp) ?_; (case hd => rfl); (case hg => rfl); (case hr => first | (go_simp; done) | (go_simp; rfl)); (case hp => exact (Reps.one (show Kd.FK (Kd.slice 5 (Kd.int .u8)) _ _ l1 [.slice A1 l1.length c1] from (Kd.FK_slice_mk (Kd.V_reads' (Kd.V_mono (ok' := (fun k_ => (P1_ k_ ∨ w.heap.size ≤ k_))) (HO1.out) (fun k_ hk => hk))).2.1 (Kd.V_F (Kd.V_mono (ok' := (fun k_ => (P1_ k_ ∨ w.heap.size ≤ k_))) (HO1.out) (fun k_ hk => hk))))) (Reps.none _ _))); intro v444 w24 ho25 hb hg_ hnew_; clear hg_ hnew_; (first | rw [← Ny443.out] at ho25 | (simp only [Int.reduceToNat] at ho25; rw [← Ny443.out] at ho25)); have n0_ := aK (Kd.V_elder' (by (with_reducible repeat (first | apply Kd.V_alloc | apply Kd.V_drewN | apply Kd.V_drew)); exact HO1.out) (Kd.N_base ho25) hb); have n1_ := aK (Kd.N_lower ho25 (below_size (mvh HB.out))); have n2_ := aK (below_step (mvh HB.out) hb); clear HO1 HB; have HO1 := n0_; have HO445 := n1_; have HB := n2_; clear n0_ n1_ n2_; clear hb ho25; obtain ⟨Ao26, co26, eo26⟩ := Kd.N_slice HO445.out; subst eo26) | (go_at_call 39; (with_reducible refine (gT_lists.calls k _ a0 _ _ y443 t446 _ ?side1 ?side2 ?side3 A3.out).mono ?_); (case side1 => exact (gal_OK_below HR0.out HB.out)); (case side2 => exact mvC (Kd.N_reads' HO445.out).2.2); (case side3 => exact (Kd.N_reads' HO445.out).2.1); rintro e w' ⟨rfl, ⟨nd, rfl⟩⟩))
  go_ret2
  exact ⟨_, by first | rfl | (simp [errW_none, errW_some] <;> rfl) | (simp [*, errW_none, errW_some] <;> rfl), by first | exact Kd.R_nil _ _ _ _ _ | exact Kd.N_nil _ _ _ _ _ | exact Kd.V_nil _ _ _ _ _ | exact Kd.Q_nil _ _ _ _ _ | exact Kd.S_nil _ _ _ _ _, mvh HB.out⟩

 rw [if_pos c4] at H
 have c4b0 : (t446 == 0) = true := beq_iff_eq.mpr c4
 have c4b1 : (t446 != 0) = false := bne_eq_false_iff_eq.mpr c4
 clear c4
 obtain ⟨ji5, hji5⟩ : ∃ j_ : Int, (mx 0 (wrap64 ((l1.length : Int) - 1))) = j_ := ⟨_, rfl⟩
 first | rw [hji5] at H | simp only [hji5] at H
 (try rw [hji5] at A3)
 (try (have hji5l : 0 ≤ ji5 := by (rw [← hji5]; unfold mx; (repeat' split) <;> omega)))
 (try (have hji5m : 0 ≤ ji5 := by omega))
 have hji5_ : (if 0 < (wrap64 ((l1.length : Int) - 1)) then (wrap64 ((l1.length : Int) - 1)) else 0) = ji5 := hji5
 by_cases c6 : 0 ≤ (ji5)
 rotate_left
 ·rw [if_neg c6] at H
  exact absurd H (by simp)
 rw [if_pos c6] at H
 have c6b0 := eq_true c6
 have c6b1 : decide (0 ≤ (ji5)) = true := decide_eq_true c6
 clear c6
 by_cases c7 : (ji5 : Int).toNat ≤ 281474976710656
 rotate_left
 ·rw [if_neg c7] at H
  exact absurd H (by simp)
 rw [if_pos c7] at H
 have c7b0 := eq_true c7
 have c7b1 : decide ((ji5 : Int).toNat ≤ 281474976710656) = true := decide_eq_true c7
 clear c7
 obtain ⟨y447, hy447⟩ : ∃ y_ : List Int, y_ = (List.replicate (ji5 : Int).toNat 0) := ⟨_, rfl⟩
 replace H : (gT_Derive.l0 k l1 y447 (y447.length : Int) 0) = some (r1, r2) := by rw [hy447]; exact H
 have Ny447 := Aside0.mk hy447
 clear hy447
 have H' := Aside0.mk H
 clear H
 go_enter Try.func24, Try.ntmps24
 go_wp2_with (first | ((with_reducible refine gate_dst (N := 11) rfl ?_); refine Kd.N_lit (Kd.slice 5 (Kd.int .u8)) _ 25 ?hg (N' := 11) ?hd (xs := ([l1] : List (List Int))) (inner := [.slice A1 l1.length c1]) (ok := (fun k_ => (P1_ k_ ∨ w.heap.size ≤ k_))) (okp := (fun k_ => (P1_ k_ ∨ w.heap.size ≤ k_))) ?hr ?hp (fun _ hk => hk) ((show ∀ k_, w.heap.size ≤ k_ → (fun k_ => (P1_ k_ ∨ w.heap.size ≤ k_)) k_ from fun k_ hk => (.inr (Nat.le_trans (below_size (mvh HB.out)) hk))) _ (Nat.le_refl _)) (Below.refl _ _) (Nat.le_refl _) (by simp) ?_; (case hd => rfl); (case hg => rfl); (case hr => first | (go_simp; done) | (go_simp; rfl)); (case hp => exact (Reps.one (show Kd.FK (Kd.slice 5 (Kd.int .u8)) _ _ l1 [.slice A1 l1.length c1] from (Kd.FK_slice_mk (Kd.V_reads' (Kd.V_mono (ok' := (fun k_ => (P1_ k_ ∨ w.heap.size ≤ k_))) (HO1.out) (fun k_ hk => hk))).2.1 (Kd.V_F (Kd.V_mono (ok' := (fun k_ => (P1_ k_ ∨ w.heap.size ≤ k_))) (HO1.out) (fun k_ hk => hk))))) (Reps.none _ _))); intro v444 w8 ho9 hb hg_ hnew_; clear hg_ hnew_; (first | rw [← Ny443.out] at ho9 | (simp only [Int.reduceToNat] at ho9; rw [← Ny443.out] at ho9)); have n0_ := aK (Kd.V_elder' (by (with_reducible repeat (first | apply Kd.V_alloc | apply Kd.V_drewN | apply Kd.V_drew)); exact HO1.out) (Kd.N_base ho9) hb); have n1_ := aK (Kd.N_lower ho9 (below_size (mvh HB.out))); have n2_ := aK (below_step (mvh HB.out) hb); clear HO1 HB; have HO1 := n0_; have HO445 := n1_; have HB := n2_; clear n0_ n1_ n2_; clear hb ho9; obtain ⟨Ao10, co10, eo10⟩ := Kd.N_slice HO445.out; subst eo10) | (go_at_call 39; (with_reducible refine (gT_lists.calls k _ a0 _ _ y443 t446 _ ?side1 ?side2 ?side3 A3.out).mono ?_); (case side1 => exact (gal_OK_below HR0.out HB.out)); (case side2 => exact mvC (Kd.N_reads' HO445.out).2.2); (case side3 => exact (Kd.N_reads' HO445.out).2.1); rintro e w' ⟨rfl, ⟨nd, rfl⟩⟩) | ((with_reducible refine gate_dst (N := 20) rfl ?_); refine Kd.R_make (Kd.int .u8) _ 5 rfl (N := 20) rfl 25 _ _ rfl ji5 rfl rfl Try.underlying25 (.int .u8 0) 1 info5 rfl (by decide) (by omega) 0 (ok := fun _ => True) (okp := fun _ => True) rfl (fun _ hk => hk) trivial (of_decide_eq_true (by first | (with_reducible assumption) | assumption)) (Nat.le_trans (Nat.mul_le_mul_right _ (of_decide_eq_true (by first | (with_reducible assumption) | assumption) : ji5.toNat ≤ 281474976710656)) (by omega)) (Below.refl _ _) (Nat.le_refl _) ?_; intro v448 w11 ho12 hb hg_ hnew_; clear hg_ hnew_; (first | rw [← Ny447.out] at ho12 | (simp only [Int.reduceToNat] at ho12; rw [← Ny447.out] at ho12)); have n0_ := aK (Kd.V_elder' (by (with_reducible repeat (first | apply Kd.V_alloc | apply Kd.V_drewN | apply Kd.V_drew)); exact HO1.out) (Kd.R_base ho12) hb); have n1_ := aK (Kd.N_elder' (by (with_reducible repeat (first | apply Kd.N_alloc | apply Kd.N_drewN | apply Kd.N_drew)); exact HO445.out) (Kd.R_base ho12) hb); have n2_ := aK (Kd.R_lower (Kd.R_newM (M := fun k_ => (w.heap.size ≤ k_)) ho12 (below_size (mvh HB.out)) (fun k_ h_ => h_)) (below_size (mvh HB.out))); have n3_ := aK (below_step (mvh HB.out) hb); clear HO1 HO445 HB; have HO1 := n0_; have HO445 := n1_; have HO449 := n2_; have HB := n3_; clear n0_ n1_ n2_ n3_; clear hb ho12; obtain ⟨Ao13, co13, eo13⟩ := Kd.R_slice HO449.out; subst eo13))
 go_loopg [23] k (fun kq v23 w' => ∃ (x7_1 : List Int) (x23_1 : Int), v23 = .int .i64 x23_1 ∧ Aside0 (gT_Derive.l0 kq l1 x7_1 (y447.length : Int) x23_1 = some (r1, r2)) ∧ Aside0 (kq ≤ k) ∧ Aside0 (Kd.V (Kd.int .u8) 5 w' w.heap.size (fun k_ => (P1_ k_ ∨ w.heap.size ≤ k_) ∧ some k_ ≠ ((.slice Ao13 y447.length co13) : Value).ownBlock) (.slice A1 l1.length c1) l1) ∧ Aside0 (Kd.R (Kd.int .u8) 5 w' w.heap.size (fun k_ => (w.heap.size ≤ k_)) (.slice Ao13 y447.length co13) x7_1) ∧ Aside0 (Below w.heap.size w w'))
 case atStart => exact ⟨(y447), (0), (by first | rfl | (simp; done) | (simp [*]; done) | (simp [wrap64]; done)), H', ⟨Nat.le_refl _⟩, ⟨by (with_reducible repeat (first | apply Kd.V_alloc | apply Kd.V_drewN | apply Kd.V_drew)); exact Kd.V_mono HO1.out (fun _ hk => ⟨hk.1.1, hk.2⟩)⟩, ⟨by (with_reducible repeat (first | apply Kd.R_alloc | apply Kd.R_drewN | apply Kd.R_drew)); exact Kd.R_mono HO449.out (fun _ hk => hk.1)⟩, ⟨mvh HB.out⟩⟩
 case round =>
  clear H'
  (try clear c1); (try clear c2); (try clear p2); (try clear c3); (try clear c4); (try clear c4b0); (try clear c4b1); (try clear c6); (try clear c6b0); (try clear c6b1); (try clear p6); (try clear c7); (try clear c7b0); (try clear c7b1)
  obtain ⟨x7_1, x23_1, rfl, HA, HK1, HO_1, HO_7, HB⟩ := hrel
  have hl7_1 := (Kd.R_reads' HO_7.out).1
  rw [hl7_1] at HO_7
  (try simp only [hl7_1])
  (try simp only [hl7_1] at HO_1)
  cases gk with
  | zero => exact absurd HA.out (by simp [gT_Derive.l0])
  | succ k1 =>
   have H := HA.out
   clear HA
   simp only [gT_Derive.l0] at H
   by_cases c14 : x23_1 < (y447.length : Int)
   rotate_left
   ·rw [if_neg c14] at H
    have c14b0 : decide (x23_1 < (y447.length : Int)) = false := decide_eq_false c14
    (try simp only [hl7_1] at c14b0)
    clear c14
    replace H := Option.bind_eq_some_iff.mp H
    obtain ⟨t452, A220, H⟩ := H
    replace H : (some (t452, 0)) = some (r1, r2) := H
    have A22 := Aside0.mk A220
    clear A220
    simp only [Option.some.injEq, Prod.mk.injEq] at H
    obtain ⟨rfl, rfl⟩ := H
    go_wp2_with (first | (go_at_call 52; (with_reducible refine (galois_trim.calls _ _ x7_1 t452 _ ?side1 ?side2 A22.out).mono ?_); (case side1 => exact mvC (Kd.R_reads' HO_7.out).2.2); (case side2 => exact (Kd.R_reads' HO_7.out).2.1); rintro e w23 ⟨v453, rfl, ho0, hb⟩; have n0_ := aK (Kd.V_elder' (by (with_reducible repeat (first | apply Kd.V_alloc | apply Kd.V_drewN | apply Kd.V_drew)); exact HO_1.out) (Kd.R_base ho0) hb); have n1_ := aK (Kd.R_elder' (mvR HO_7.out) (Kd.R_base ho0) hb); have n2_ := aK (Kd.R_lower (Kd.R_new' (Kd.R_newM (M := fun k_ => (w.heap.size ≤ k_)) ho0 (below_size (mvh HB.out)) (fun k_ h_ => h_)) (Kd.R_lt (mvR HO_7.out))) (below_size (mvh HB.out))); have n3_ := aK (below_step (mvh HB.out) hb); clear HO_1 HO_7 HB; have HO_1 := n0_; have HO_7 := n1_; have HO454 := n2_; have HB := n3_; clear n0_ n1_ n2_ n3_; (try clear hb); (try clear ho0)))
    go_ret2
    exact ⟨_, by first | rfl | (simp [errW_none, errW_some] <;> rfl) | (simp only [← hji5]; first | rfl | (simp [errW_none, errW_some] <;> rfl)) | (simp [*, errW_none, errW_some] <;> rfl), by (with_reducible repeat (first | apply Kd.R_alloc | apply Kd.R_drewN | apply Kd.R_drew)); exact Kd.R_mono HO454.out (fun _ hk => hk.1.1), mvh HB.out⟩
   rw [if_pos c14] at H
   have c14b0 : decide (x23_1 < (y447.length : Int)) = true := decide_eq_true c14
   (try simp only [hl7_1] at c14b0)
   clear c14
   by_cases c15 : (Int.tmod (wrap64 ((wrap64 ((l1.length : Int) - 1)) - x23_1)) 2) = 1
   rotate_left
   ·rw [if_neg c15] at H
    have c15b0 : ((Int.tmod (wrap64 ((wrap64 ((l1.length : Int) - 1)) - x23_1)) 2) == 1) = false := beq_eq_false_iff_ne.mpr c15
    (try simp only [hl7_1] at c15b0)
    have c15b1 : ((Int.tmod (wrap64 ((wrap64 ((l1.length : Int) - 1)) - x23_1)) 2) != 1) = true := bne_iff_ne.mpr c15
    (try simp only [hl7_1] at c15b1)
    clear c15
    have H' := Aside0.mk H
    clear H
    go_wp2
    (try simp only [← hl7_1])
    go_roundg k1
    case measure => have := HK1.out; omega
    case rel => exact ⟨(x7_1), (wrap64 (x23_1 + 1)), (by first | rfl | (simp; done) | (simp [*]; done) | (simp [wrap64]; done)), H', ⟨by have := HK1.out; omega⟩, ⟨by (try simp only [hl7_1]); (with_reducible repeat (first | apply Kd.V_alloc | apply Kd.V_drewN | apply Kd.V_drew)); exact HO_1.out⟩, ⟨by (try simp only [hl7_1]); exact mvR HO_7.out⟩, ⟨mvh HB.out⟩⟩
   rw [if_pos c15] at H
   have c15b0 : ((Int.tmod (wrap64 ((wrap64 ((l1.length : Int) - 1)) - x23_1)) 2) == 1) = true := beq_iff_eq.mpr c15
   (try simp only [hl7_1] at c15b0)
   have c15b1 : ((Int.tmod (wrap64 ((wrap64 ((l1.length : Int) - 1)) - x23_1)) 2) != 1) = false := bne_eq_false_iff_eq.mpr c15
   (try simp only [hl7_1] at c15b1)
   clear c15
   by_cases c16 : 0 ≤ x23_1
   rotate_left
   ·rw [if_neg c16] at H
    exact absurd H (by simp)
   rw [if_pos c16] at H
   have c16b0 : decide (0 ≤ x23_1) = true := decide_eq_true c16
   clear c16
   by_cases c17 : x23_1 < (l1.length : Int)
   rotate_left
   ·rw [if_neg c17] at H
    exact absurd H (by simp)
   rw [if_pos c17] at H
   have c17b0 : decide (x23_1 < (l1.length : Int)) = true := decide_eq_true c17
   (try simp only [hl7_1] at c17b0)
   clear c17
   by_cases c18 : x23_1 < (x7_1.length : Int)
   rotate_left
   ·rw [if_neg c18] at H
    exact absurd H (by simp)
   rw [if_pos c18] at H
   have c18b0 : decide (x23_1 < (x7_1.length : Int)) = true := decide_eq_true c18
   (try simp only [hl7_1] at c18b0)
   clear c18
   obtain ⟨y451, hy451⟩ : ∃ y_ : List Int, y_ = (x7_1.set (x23_1 : Int).toNat (rd l1 x23_1)) := ⟨_, rfl⟩
   replace H : (gT_Derive.l0 k1 l1 y451 (y447.length : Int) (wrap64 (x23_1 + 1))) = some (r1, r2) := by rw [hy451]; exact H
   have Ny451 := Aside0.mk hy451
   clear hy451
   have H' := Aside0.mk H
   clear H
   have p450 : 0 ≤ (x23_1 : Int) := of_decide_eq_true (by first | (with_reducible assumption) | assumption)
   have q450 : x23_1 < (l1.length : Int) := of_decide_eq_true (by first | (with_reducible assumption) | assumption)
   obtain ⟨ad450, e450, hx450_0⟩ := Kd.at_int (Kd.V_reads' HO_1.out).2.2 x23_1 p450 q450
   cases e450
   replace p450 := eq_true p450
   replace q450 := eq_true q450
   have p19 : 0 ≤ (x23_1 : Int) := of_decide_eq_true (by first | (with_reducible assumption) | assumption)
   have q19 : (x23_1 : Int) < ((x7_1.length : Int) : Int) := of_decide_eq_true (by first | (with_reducible assumption) | assumption)
   obtain ⟨go19, co19, eo19, gb19, gl19, cl19, HG19⟩ := Kd.R_form HO_7.out (by omega)
   (first | cases eo19 | (injection eo19 with ea_ en_ ec_; (first | subst ea_ | (injection ea_ with ea_; subst ea_)); subst ec_; clear en_))
   have GB19 := Aside0.mk gb19
   have GG19 := Aside0.mk HG19
   clear gb19 gl19 HG19
   obtain ⟨hx19_0, hf19_0⟩ := Kd.R_celln 0 HO_7.out (x23_1 : Int) p19 q19
   replace p19 := eq_true p19
   replace q19 := eq_true q19
   have HP20 := Kd.R_putg HO_7.out (x23_1 : Int) (rd l1 x23_1)
   go_wp2_with (first | ((with_reducible refine gate_store (t := 5) (p := 39) rfl ?_); refine store_event (t := 5) (p := 39) (v := ?vo_w21) (w1 := (wr.setCell ⟨go19, (x23_1 : Int).toNat, none⟩ (.int .u8 (rd l1 x23_1)))) ?hg ?ho ?hn ?hr ?_; (case ho => rfl); (case hg => rfl); (case hn => rfl); (case hr => first | (go_simp; done) | (go_simp; rfl)); intro w21 hw; have hg : wr.grownBy w21 (some go19) := (by rw [hw]; exact HP20.2); have hp_ : Kd.R (Kd.int .u8) 5 w21 w.heap.size (fun k_ => (w.heap.size ≤ k_)) (.slice (some ⟨go19, 0, none⟩) x7_1.length co13) y451 := (by rw [hw, Ny451.out]; exact HP20.1); clear HP20; have n0_ := aK (Kd.V_afterv (v := (.slice (some ⟨go19, 0, none⟩) x7_1.length co13)) (v1 := (.slice (some ⟨go19, 0, none⟩) x7_1.length co13)) (ok := (fun k_ => (P1_ k_ ∨ w.heap.size ≤ k_))) (by (with_reducible repeat (first | apply Kd.V_alloc | apply Kd.V_drewN | apply Kd.V_drew)); exact HO_1.out) hg (.inl rfl)); have n1_ := aK (hp_); have n2_ := aK ((by rw [hw]; exact below_set (HB.out) GB19.out : Below w.heap.size w w21)); clear HO_1 HO_7 HB; have HO_1 := n0_; have HO_7 := n1_; have HB := n2_; clear n0_ n1_ n2_; clear hg hw hp_))
   (try simp only [← hl7_1])
   go_roundg k1
   case measure => have := HK1.out; omega
   case rel => exact ⟨(y451), (wrap64 (x23_1 + 1)), (by first | rfl | (simp; done) | (simp [*]; done) | (simp [wrap64]; done)), H', ⟨by have := HK1.out; omega⟩, ⟨by (try simp only [hl7_1]); (with_reducible repeat (first | apply Kd.V_alloc | apply Kd.V_drewN | apply Kd.V_drew)); exact HO_1.out⟩, ⟨by (try simp only [hl7_1]); exact mvR HO_7.out⟩, ⟨mvh HB.out⟩⟩
def gT_Roots.l0 : Nat → GTab → List Int → List Int → Int → Int → Option (List Int × Int)
 | 0, _, _, _, _, _ => none
 | k + 1, x0, x1, x7, x23, x24 => if x24 < x23 then ((gT_eval.f k x0 x1 ((x24) % 256)).bind fun t462 => (if t462 = 0 then (if x7.length < 140737488355328 then (gT_Roots.l0 k x0 x1 (x7 ++ [(x24) % 256]) x23 (wrap64 (x24 + 1))) else (none)) else (gT_Roots.l0 k x0 x1 x7 x23 (wrap64 (x24 + 1))))) else (some (x7, 0))
def gT_Roots.f (k : Nat) (a0 : GTab) (l1 : List Int) : Option (List Int × Int) := (gT_lists.f k a0 (([l1] : List (List Int)))).bind fun t458 => (if t458 = 0 then ((galois_trim.f l1).bind fun t459 => (if (t459.length : Int) = 0 then (some (([] : List Int), 20)) else (if 0 < a0.size then (gT_Roots.l0 k a0 l1 ([] : List Int) (a0.size : Int) 0) else (none)))) else (some (([] : List Int), t458)))
theorem gT_Roots.mono_l : ∀ k, (∀ y0 y1 y2 y3 y4, LeO (gT_Roots.l0 k y0 y1 y2 y3 y4) (gT_Roots.l0 (k + 1) y0 y1 y2 y3 y4))
 | 0 => fun _ _ _ _ _ r h => by simp [gT_Roots.l0] at h
 | k + 1 => by
  have ih0 := gT_Roots.mono_l k
  ·intro y0 y1 y2 y3 y4
   unfold gT_Roots.l0
   repeat' first
   | (with_reducible exact ih0 _ _ _ _ _)
   | (with_reducible exact gT_eval.mono _ _ _ _)
   | (with_reducible exact gT_lists.mono _ _ _)
   | (with_reducible exact LeO.refl _)
   | (with_reducible exact LeO.none _)
   | (with_reducible refine LeO.ite ?_ ?_)
   | (with_reducible refine LeO.bind ?_ (fun _ => ?_))
theorem gT_Roots.mono : ∀ a0 a1 k, LeO (gT_Roots.f k a0 a1) (gT_Roots.f (k + 1) a0 a1) := by
 intro a0 a1 k
 have ih0 := gT_Roots.mono_l k
 unfold gT_Roots.f
 repeat' first
   | (with_reducible exact ih0 _ _ _ _ _)
   | (with_reducible exact gT_eval.mono _ _ _ _)
   | (with_reducible exact gT_lists.mono _ _ _)
   | (with_reducible exact LeO.refl _)
   | (with_reducible exact LeO.none _)
   | (with_reducible refine LeO.ite ?_ ?_)
   | (with_reducible refine LeO.bind ?_ (fun _ => ?_))
set_option maxHeartbeats 8000000 in
set_option maxRecDepth 100000 in
theorem gT_Roots.calls (k : Nat) (A0 : Option Addr) (a0 : GTab) (P1_ : Nat → Prop) (A1 : Option Addr) (c1 : Nat) (l1 : List Int) (r1 : List Int) (r2 : Int) (w : World) (hr0 : gal_OK w A0 a0) (hs1 : Kd.V (Kd.int .u8) 5 w w.heap.size (fun k_ => P1_ k_) (.slice A1 l1.length c1) l1) (h : gT_Roots.f k a0 l1 = some (r1, r2)) :
  Calls Try.prog 25 #[.pointer A0, .slice A1 l1.length c1] w fun e w' => ∃ v0_ : Value, e = .returned (.tuple #[v0_, .int .i64 r2]) ∧ Kd.R (Kd.int .u8) 5 w' w.heap.size (fun k_ => (w.heap.size ≤ k_)) v0_ r1 ∧ Below w.heap.size w w' := by
 have HR0 := Aside0.mk hr0
 clear hr0
 have HO1 := aK (show Kd.V (Kd.int .u8) 5 w w.heap.size (fun k_ => (P1_ k_ ∨ w.heap.size ≤ k_)) (.slice A1 l1.length c1) l1 from Kd.V_mono hs1 (fun k_ hk => .inl hk))
 have HB := aK (Below.refl w.heap.size w)
 have H : ((gT_lists.f k a0 (([l1] : List (List Int)))).bind fun t458 => (if t458 = 0 then ((galois_trim.f l1).bind fun t459 => (if (t459.length : Int) = 0 then (some (([] : List Int), 20)) else (if 0 < a0.size then (gT_Roots.l0 k a0 l1 ([] : List Int) (a0.size : Int) 0) else (none)))) else (some (([] : List Int), t458)))) = some (r1, r2) := h
 clear h
 obtain ⟨y455, hy455⟩ : ∃ y_ : List (List Int), y_ = (([l1] : List (List Int))) := ⟨_, rfl⟩
 replace H : ((gT_lists.f k a0 y455).bind fun t458 => (if t458 = 0 then ((galois_trim.f l1).bind fun t459 => (if (t459.length : Int) = 0 then (some (([] : List Int), 20)) else (if 0 < a0.size then (gT_Roots.l0 k a0 l1 ([] : List Int) (a0.size : Int) 0) else (none)))) else (some (([] : List Int), t458)))) = some (r1, r2) := by rw [hy455]; exact H
 have Ny455 := Aside0.mk hy455
 clear hy455
 replace H := Option.bind_eq_some_iff.mp H
 obtain ⟨t458, A30, H⟩ := H
 try dsimp only at H
 have A3 := Aside0.mk A30
 clear A30
 by_cases c4 : t458 = 0
 rotate_left
 ·rw [if_neg c4] at H
  have c4b0 : (t458 == 0) = false := beq_eq_false_iff_ne.mpr c4
  have c4b1 : (t458 != 0) = true := bne_iff_ne.mpr c4
  simp only [Option.some.injEq, Prod.mk.injEq] at H
  obtain ⟨rfl, rfl⟩ := H
  go_enter Try.func25, Try.ntmps25
  go_wp2_with (first | ((with_reducible refine gate_dst (N := 11) rfl ?_); refine Kd.N_lit (Kd.slice 5 (Kd.int .u8)) _ 25 ?hg (N' := 11) ?hd (xs := ([l1] : List (List Int))) (inner := [.slice A1 l1.length c1]) (ok := (fun k_ => (P1_ k_ ∨ w.heap.size ≤ k_))) (okp := (fun k_ => (P1_ k_ ∨ w.heap.size ≤ k_))) ?hr ?hp (fun _ hk => hk) ((show ∀ k_, w.heap.size ≤ k_ → (fun k_ => (P1_ k_ ∨ w.heap.size ≤ k_)) k_ from fun k_ hk => (.inr (Nat.le_trans (below_size (mvh HB.out)) hk))) _ (Nat.le_refl _)) (Below.refl _ _) (Nat.le_refl _) (by simp) ?_; (case hd => rfl); (case hg => rfl); (case hr => first | (go_simp; done) | (go_simp; rfl)); (case hp => exact (Reps.one (show Kd.FK (Kd.slice 5 (Kd.int .u8)) _ _ l1 [.slice A1 l1.length c1] from (Kd.FK_slice_mk (Kd.V_reads' (Kd.V_mono (ok' := (fun k_ => (P1_ k_ ∨ w.heap.size ≤ k_))) (HO1.out) (fun k_ hk => hk))).2.1 (Kd.V_F (Kd.V_mono (ok' := (fun k_ => (P1_ k_ ∨ w.heap.size ≤ k_))) (HO1.out) (fun k_ hk => hk))))) (Reps.none _ _))); intro v456 w24 ho25 hb hg_ hnew_; clear hg_ hnew_; (first | rw [← Ny455.out] at ho25 | (simp only [Int.reduceToNat] at ho25; rw [← Ny455.out] at ho25)); have n0_ := aK (Kd.V_elder' (by (with_reducible repeat (first | apply Kd.V_alloc | apply Kd.V_drewN | apply Kd.V_drew)); exact HO1.out) (Kd.N_base ho25) hb); have n1_ := aK (Kd.N_lower ho25 (below_size (mvh HB.out))); have n2_ := aK (below_step (mvh HB.out) hb); clear HO1 HB; have HO1 := n0_; have HO457 := n1_; have HB := n2_; clear n0_ n1_ n2_; clear hb ho25; obtain ⟨Ao26, co26, eo26⟩ := Kd.N_slice HO457.out; subst eo26) | (go_at_call 39; (with_reducible refine (gT_lists.calls k _ a0 _ _ y455 t458 _ ?side1 ?side2 ?side3 A3.out).mono ?_); (case side1 => exact (gal_OK_below HR0.out HB.out)); (case side2 => exact mvC (Kd.N_reads' HO457.out).2.2); (case side3 => exact (Kd.N_reads' HO457.out).2.1); rintro e w' ⟨rfl, ⟨nd, rfl⟩⟩))
  go_ret2
  exact ⟨_, by first | rfl | (simp [errW_none, errW_some] <;> rfl) | (simp [*, errW_none, errW_some] <;> rfl), by first | exact Kd.R_nil _ _ _ _ _ | exact Kd.N_nil _ _ _ _ _ | exact Kd.V_nil _ _ _ _ _ | exact Kd.Q_nil _ _ _ _ _ | exact Kd.S_nil _ _ _ _ _, mvh HB.out⟩

 rw [if_pos c4] at H
 have c4b0 : (t458 == 0) = true := beq_iff_eq.mpr c4
 have c4b1 : (t458 != 0) = false := bne_eq_false_iff_eq.mpr c4
 clear c4
 replace H := Option.bind_eq_some_iff.mp H
 obtain ⟨t459, A50, H⟩ := H
 try dsimp only at H
 have A5 := Aside0.mk A50
 clear A50
 by_cases c6 : (t459.length : Int) = 0
 ·rw [if_pos c6] at H
  have c6b0 : ((t459.length : Int) == 0) = true := beq_iff_eq.mpr c6
  have c6b1 : ((t459.length : Int) != 0) = false := bne_eq_false_iff_eq.mpr c6
  clear c6
  simp only [Option.some.injEq, Prod.mk.injEq] at H
  obtain ⟨rfl, rfl⟩ := H
  go_enter Try.func25, Try.ntmps25
  go_wp2_with (first | ((with_reducible refine gate_dst (N := 11) rfl ?_); refine Kd.N_lit (Kd.slice 5 (Kd.int .u8)) _ 25 ?hg (N' := 11) ?hd (xs := ([l1] : List (List Int))) (inner := [.slice A1 l1.length c1]) (ok := (fun k_ => (P1_ k_ ∨ w.heap.size ≤ k_))) (okp := (fun k_ => (P1_ k_ ∨ w.heap.size ≤ k_))) ?hr ?hp (fun _ hk => hk) ((show ∀ k_, w.heap.size ≤ k_ → (fun k_ => (P1_ k_ ∨ w.heap.size ≤ k_)) k_ from fun k_ hk => (.inr (Nat.le_trans (below_size (mvh HB.out)) hk))) _ (Nat.le_refl _)) (Below.refl _ _) (Nat.le_refl _) (by simp) ?_; (case hd => rfl); (case hg => rfl); (case hr => first | (go_simp; done) | (go_simp; rfl)); (case hp => exact (Reps.one (show Kd.FK (Kd.slice 5 (Kd.int .u8)) _ _ l1 [.slice A1 l1.length c1] from (Kd.FK_slice_mk (Kd.V_reads' (Kd.V_mono (ok' := (fun k_ => (P1_ k_ ∨ w.heap.size ≤ k_))) (HO1.out) (fun k_ hk => hk))).2.1 (Kd.V_F (Kd.V_mono (ok' := (fun k_ => (P1_ k_ ∨ w.heap.size ≤ k_))) (HO1.out) (fun k_ hk => hk))))) (Reps.none _ _))); intro v456 w7 ho8 hb hg_ hnew_; clear hg_ hnew_; (first | rw [← Ny455.out] at ho8 | (simp only [Int.reduceToNat] at ho8; rw [← Ny455.out] at ho8)); have n0_ := aK (Kd.V_elder' (by (with_reducible repeat (first | apply Kd.V_alloc | apply Kd.V_drewN | apply Kd.V_drew)); exact HO1.out) (Kd.N_base ho8) hb); have n1_ := aK (Kd.N_lower ho8 (below_size (mvh HB.out))); have n2_ := aK (below_step (mvh HB.out) hb); clear HO1 HB; have HO1 := n0_; have HO457 := n1_; have HB := n2_; clear n0_ n1_ n2_; clear hb ho8; obtain ⟨Ao9, co9, eo9⟩ := Kd.N_slice HO457.out; subst eo9) | (go_at_call 39; (with_reducible refine (gT_lists.calls k _ a0 _ _ y455 t458 _ ?side1 ?side2 ?side3 A3.out).mono ?_); (case side1 => exact (gal_OK_below HR0.out HB.out)); (case side2 => exact mvC (Kd.N_reads' HO457.out).2.2); (case side3 => exact (Kd.N_reads' HO457.out).2.1); rintro e w' ⟨rfl, ⟨nd, rfl⟩⟩) | (go_at_call 52; (with_reducible refine (galois_trim.calls _ _ l1 t459 _ ?side1 ?side2 A5.out).mono ?_); (case side1 => exact mvC (Kd.V_reads' HO1.out).2.2); (case side2 => exact (Kd.V_reads' HO1.out).2.1); rintro e w10 ⟨v460, rfl, ho0, hb⟩; have n0_ := aK (Kd.V_elder' (by (with_reducible repeat (first | apply Kd.V_alloc | apply Kd.V_drewN | apply Kd.V_drew)); exact HO1.out) (Kd.R_base ho0) hb); have n1_ := aK (Kd.N_elder' (by (with_reducible repeat (first | apply Kd.N_alloc | apply Kd.N_drewN | apply Kd.N_drew)); exact HO457.out) (Kd.R_base ho0) hb); have n2_ := aK (Kd.R_lower (Kd.R_newM (M := fun k_ => (w.heap.size ≤ k_)) ho0 (below_size (mvh HB.out)) (fun k_ h_ => h_)) (below_size (mvh HB.out))); have n3_ := aK (below_step (mvh HB.out) hb); clear HO1 HO457 HB; have HO1 := n0_; have HO457 := n1_; have HO461 := n2_; have HB := n3_; clear n0_ n1_ n2_ n3_; (try clear hb); (try clear ho0); obtain ⟨Ao11, co11, eo11⟩ := Kd.R_slice HO461.out; subst eo11))
  go_ret2
  exact ⟨_, by first | rfl | (simp [errW_none, errW_some] <;> rfl) | (simp [*, errW_none, errW_some] <;> rfl), by first | exact Kd.R_nil _ _ _ _ _ | exact Kd.N_nil _ _ _ _ _ | exact Kd.V_nil _ _ _ _ _ | exact Kd.Q_nil _ _ _ _ _ | exact Kd.S_nil _ _ _ _ _, mvh HB.out⟩
 ·rw [if_neg c6] at H
  have c6b0 : ((t459.length : Int) == 0) = false := beq_eq_false_iff_ne.mpr c6
  have c6b1 : ((t459.length : Int) != 0) = true := bne_iff_ne.mpr c6
  have c6b2 : ¬ (t459 = []) := fun h_ => c6 (by rw [h_]; rfl)
  by_cases c12 : 0 < a0.size
  rotate_left
  ·rw [if_neg c12] at H
   exact absurd H (by simp)
  rw [if_pos c12] at H
  obtain ⟨b_, p_, q_, rfl, hT_⟩ := gal_pos HR0.out c12
  have HT0 := Aside0.mk hT_
  clear hT_ c12
  have H' := Aside0.mk H
  clear H
  go_enter Try.func25, Try.ntmps25
  go_wp2_with (first | ((with_reducible refine gate_dst (N := 11) rfl ?_); refine Kd.N_lit (Kd.slice 5 (Kd.int .u8)) _ 25 ?hg (N' := 11) ?hd (xs := ([l1] : List (List Int))) (inner := [.slice A1 l1.length c1]) (ok := (fun k_ => (P1_ k_ ∨ w.heap.size ≤ k_))) (okp := (fun k_ => (P1_ k_ ∨ w.heap.size ≤ k_))) ?hr ?hp (fun _ hk => hk) ((show ∀ k_, w.heap.size ≤ k_ → (fun k_ => (P1_ k_ ∨ w.heap.size ≤ k_)) k_ from fun k_ hk => (.inr (Nat.le_trans (below_size (mvh HB.out)) hk))) _ (Nat.le_refl _)) (Below.refl _ _) (Nat.le_refl _) (by simp) ?_; (case hd => rfl); (case hg => rfl); (case hr => first | (go_simp; done) | (go_simp; rfl)); (case hp => exact (Reps.one (show Kd.FK (Kd.slice 5 (Kd.int .u8)) _ _ l1 [.slice A1 l1.length c1] from (Kd.FK_slice_mk (Kd.V_reads' (Kd.V_mono (ok' := (fun k_ => (P1_ k_ ∨ w.heap.size ≤ k_))) (HO1.out) (fun k_ hk => hk))).2.1 (Kd.V_F (Kd.V_mono (ok' := (fun k_ => (P1_ k_ ∨ w.heap.size ≤ k_))) (HO1.out) (fun k_ hk => hk))))) (Reps.none _ _))); intro v456 w14 ho15 hb hg_ hnew_; clear hg_ hnew_; (first | rw [← Ny455.out] at ho15 | (simp only [Int.reduceToNat] at ho15; rw [← Ny455.out] at ho15)); have n0_ := aK (Kd.V_elder' (by (with_reducible repeat (first | apply Kd.V_alloc | apply Kd.V_drewN | apply Kd.V_drew)); exact HO1.out) (Kd.N_base ho15) hb); have n1_ := aK (Kd.N_lower ho15 (below_size (mvh HB.out))); have n2_ := aK (below_step (mvh HB.out) hb); clear HO1 HB; have HO1 := n0_; have HO457 := n1_; have HB := n2_; clear n0_ n1_ n2_; clear hb ho15; obtain ⟨Ao16, co16, eo16⟩ := Kd.N_slice HO457.out; subst eo16) | (go_at_call 39; (with_reducible refine (gT_lists.calls k _ a0 _ _ y455 t458 _ ?side1 ?side2 ?side3 A3.out).mono ?_); (case side1 => exact (gal_OK_below HR0.out HB.out)); (case side2 => exact mvC (Kd.N_reads' HO457.out).2.2); (case side3 => exact (Kd.N_reads' HO457.out).2.1); rintro e w' ⟨rfl, ⟨nd, rfl⟩⟩) | (go_at_call 52; (with_reducible refine (galois_trim.calls _ _ l1 t459 _ ?side1 ?side2 A5.out).mono ?_); (case side1 => exact mvC (Kd.V_reads' HO1.out).2.2); (case side2 => exact (Kd.V_reads' HO1.out).2.1); rintro e w17 ⟨v460, rfl, ho0, hb⟩; have n0_ := aK (Kd.V_elder' (by (with_reducible repeat (first | apply Kd.V_alloc | apply Kd.V_drewN | apply Kd.V_drew)); exact HO1.out) (Kd.R_base ho0) hb); have n1_ := aK (Kd.N_elder' (by (with_reducible repeat (first | apply Kd.N_alloc | apply Kd.N_drewN | apply Kd.N_drew)); exact HO457.out) (Kd.R_base ho0) hb); have n2_ := aK (Kd.R_lower (Kd.R_newM (M := fun k_ => (w.heap.size ≤ k_)) ho0 (below_size (mvh HB.out)) (fun k_ h_ => h_)) (below_size (mvh HB.out))); have n3_ := aK (below_step (mvh HB.out) hb); clear HO1 HO457 HB; have HO1 := n0_; have HO457 := n1_; have HO461 := n2_; have HB := n3_; clear n0_ n1_ n2_ n3_; (try clear hb); (try clear ho0); obtain ⟨Ao18, co18, eo18⟩ := Kd.R_slice HO461.out; subst eo18; have ho13 := gal_At_size HT0.out; have hx13 := (HB.out.cell (World.block_lt_of_cell? w _ ho13)).trans ho13))
  go_loopg [7, 24] k (fun kq v7 v24 w' => ∃ (x7_1 : List Int) (x24_1 : Int), v24 = .int .i64 x24_1 ∧ Aside0 (gT_Roots.l0 kq a0 l1 x7_1 (a0.size : Int) x24_1 = some (r1, r2)) ∧ Aside0 (kq ≤ k) ∧ Aside0 (Kd.V (Kd.int .u8) 5 w' w.heap.size (fun k_ => (P1_ k_ ∨ w.heap.size ≤ k_) ∧ some k_ ≠ (v7 : Value).ownBlock) (.slice A1 l1.length c1) l1) ∧ Aside0 (Kd.R (Kd.int .u8) 5 w' w.heap.size (fun k_ => (w.heap.size ≤ k_)) v7 x7_1) ∧ Aside0 (Below w.heap.size w w'))
  case atStart => exact ⟨(([] : List Int)), (0), (by first | rfl | (simp; done) | (simp [*]; done) | (simp [wrap64]; done)), H', ⟨Nat.le_refl _⟩, ⟨by (with_reducible repeat (first | apply Kd.V_alloc | apply Kd.V_drewN | apply Kd.V_drew)); exact Kd.V_mono HO1.out (fun _ hk => ⟨hk.1.1, (by simp [Value.ownBlock])⟩)⟩, ⟨by first | exact Kd.R_nil _ _ _ _ _ | exact Kd.N_nil _ _ _ _ _ | exact Kd.V_nil _ _ _ _ _ | exact Kd.Q_nil _ _ _ _ _ | exact Kd.S_nil _ _ _ _ _⟩, ⟨mvh HB.out⟩⟩
  case round =>
   clear H'
   (try clear c1); (try clear hx1); (try clear c2); (try clear p2); (try clear c3); (try clear c4); (try clear c4b0); (try clear c4b1); (try clear c5); (try clear c6); (try clear c6b0); (try clear c6b1); (try clear c6b2); (try clear p6); (try clear c12); (try clear hx13)
   obtain ⟨x7_1, x24_1, rfl, HA, HK1, HO_1, HO_7, HB⟩ := hrel
   cases gk with
   | zero => exact absurd HA.out (by simp [gT_Roots.l0])
   | succ k1 =>
    have H := HA.out
    clear HA
    simp only [gT_Roots.l0] at H
    by_cases c19 : x24_1 < (a0.size : Int)
    rotate_left
    ·rw [if_neg c19] at H
     have c19b0 : decide (x24_1 < (a0.size : Int)) = false := decide_eq_false c19
     clear c19
     simp only [Option.some.injEq, Prod.mk.injEq] at H
     obtain ⟨rfl, rfl⟩ := H
     go_wp2
     go_ret2
     exact ⟨_, by first | rfl | (simp [errW_none, errW_some] <;> rfl) | (simp [*, errW_none, errW_some] <;> rfl), by (with_reducible repeat (first | apply Kd.R_alloc | apply Kd.R_drewN | apply Kd.R_drew)); exact HO_7.out, mvh HB.out⟩
    rw [if_pos c19] at H
    have c19b0 : decide (x24_1 < (a0.size : Int)) = true := decide_eq_true c19
    clear c19
    replace H := Option.bind_eq_some_iff.mp H
    obtain ⟨t462, A200, H⟩ := H
    try dsimp only at H
    have A20 := Aside0.mk A200
    clear A200
    by_cases c21 : t462 = 0
    rotate_left
    ·rw [if_neg c21] at H
     have c21b0 : (t462 == 0) = false := beq_eq_false_iff_ne.mpr c21
     have c21b1 : (t462 != 0) = true := bne_iff_ne.mpr c21
     have H' := Aside0.mk H
     clear H
     go_wp2_with (first | (go_at_call 41; (with_reducible refine (gT_eval.calls k1 _ a0 _ _ l1 ((x24_1) % 256) t462 _ ?side1 ?side2 ?side3 A20.out).mono ?_); (case side1 => exact (gal_OK_below HR0.out HB.out)); (case side2 => exact mvC (Kd.V_reads' HO_1.out).2.2); (case side3 => exact (Kd.V_reads' HO_1.out).2.1); rintro e w' ⟨rfl, ⟨nd, rfl⟩⟩))
     go_roundg k1
     case measure => have := HK1.out; omega
     case rel => exact ⟨(x7_1), (wrap64 (x24_1 + 1)), (by first | rfl | (simp; done) | (simp [*]; done) | (simp [wrap64]; done)), H', ⟨by have := HK1.out; omega⟩, ⟨by (with_reducible repeat (first | apply Kd.V_alloc | apply Kd.V_drewN | apply Kd.V_drew)); exact HO_1.out⟩, ⟨mvR HO_7.out⟩, ⟨mvh HB.out⟩⟩
    rw [if_pos c21] at H
    have c21b0 : (t462 == 0) = true := beq_iff_eq.mpr c21
    have c21b1 : (t462 != 0) = false := bne_eq_false_iff_eq.mpr c21
    clear c21
    by_cases c22 : x7_1.length < 140737488355328
    rotate_left
    ·rw [if_neg c22] at H
     exact absurd H (by simp)
    rw [if_pos c22] at H
    have LMc22 := Aside0.mk c22
    clear c22
    obtain ⟨y463, hy463⟩ : ∃ y_ : List Int, y_ = (x7_1 ++ [(x24_1) % 256]) := ⟨_, rfl⟩
    replace H : (gT_Roots.l0 k1 a0 l1 y463 (a0.size : Int) (wrap64 (x24_1 + 1))) = some (r1, r2) := by rw [hy463]; exact H
    have Ny463 := Aside0.mk hy463
    clear hy463
    have H' := Aside0.mk H
    clear H
    go_wp2_with (first | (go_at_call 41; (with_reducible refine (gT_eval.calls k1 _ a0 _ _ l1 ((x24_1) % 256) t462 _ ?side1 ?side2 ?side3 A20.out).mono ?_); (case side1 => exact (gal_OK_below HR0.out HB.out)); (case side2 => exact mvC (Kd.V_reads' HO_1.out).2.2); (case side3 => exact (Kd.V_reads' HO_1.out).2.1); rintro e w' ⟨rfl, ⟨nd, rfl⟩⟩) | ((with_reducible refine gate_builtin (b := .append) (xs := #[.tmp 33, .tmp 36]) rfl ?_); at_builtin; refine Kd.R_append (Kd.int .u8) (w0 := w) w.heap.size rfl (.tmp 33) (.tmp 36) 25 5 (.int .u8 0) 1 rfl Try.underlying25 info5 rfl (by decide) (by omega) u7 x7_1 ((x24_1) % 256) [.int .u8 ((x24_1) % 256)] (fun k_ => (w.heap.size ≤ k_)) (fun _ => False) rfl rfl ?aP (fun _ hk => hk.elim) ?aF ?aO ?aB ?aS ?aL ?_; (case aP => exact rfl); (case aB => exact (mvh HB.out)); (case aF => exact (fun k_ hk => (Nat.le_trans (below_size (mvh HB.out)) hk))); (case aO => exact (mvR HO_7.out)); (case aS => exact (below_size (mvh HB.out))); (case aL => have := LMc22.out; omega); intro v464 w23 ho hb hg hat; rw [← Ny463.out] at ho; have n0_ := aK (Kd.V_afterv (ok := (fun k_ => (P1_ k_ ∨ w.heap.size ≤ k_))) (by (with_reducible repeat (first | apply Kd.V_alloc | apply Kd.V_drewN | apply Kd.V_drew)); exact HO_1.out) hg hat); have n1_ := aK (hb); have n2_ := aK (ho); clear HO_1 HB HO_7; have HO_1 := n0_; have HB := n1_; have HO465 := n2_; clear n0_ n1_ n2_; clear ho hb hg hat))
    go_roundg k1
    case measure => have := HK1.out; omega
    case rel => exact ⟨(y463), (wrap64 (x24_1 + 1)), (by first | rfl | (simp; done) | (simp [*]; done) | (simp [wrap64]; done)), H', ⟨by have := HK1.out; omega⟩, ⟨by (with_reducible repeat (first | apply Kd.V_alloc | apply Kd.V_drewN | apply Kd.V_drew)); exact HO_1.out⟩, ⟨mvR HO465.out⟩, ⟨mvh HB.out⟩⟩
def r3_over.l0 : Nat → List Int → Int → Int → Int → Option (Bool)
 | 0, _, _, _, _ => none
 | k + 1, x1, x5, x467000, x467001 => if x5 < (x1.length : Int) then (if 0 ≤ x5 then ((r3_Size.f x467000 x467001).bind fun t468 => (if (wrap64 (rd x1 x5)) ≥ t468 then (some true) else (r3_over.l0 k x1 (wrap64 (x5 + 1)) x467000 x467001))) else (none)) else (some false)
def r3_over.f (k : Nat) (a0_0 : Int) (a0_1 : Int) (l1 : List Int) : Option (Bool) := r3_over.l0 k l1 0 a0_0 a0_1
theorem r3_over.mono_l : ∀ k, (∀ y0 y1 y2 y3, LeO (r3_over.l0 k y0 y1 y2 y3) (r3_over.l0 (k + 1) y0 y1 y2 y3))
 | 0 => fun _ _ _ _ r h => by simp [r3_over.l0] at h
 | k + 1 => by
  have ih0 := r3_over.mono_l k
  ·intro y0 y1 y2 y3
   unfold r3_over.l0
   repeat' first
   | (with_reducible exact ih0 _ _ _ _)
   | (with_reducible exact LeO.refl _)
   | (with_reducible exact LeO.none _)
   | (with_reducible refine LeO.ite ?_ ?_)
   | (with_reducible refine LeO.bind ?_ (fun _ => ?_))
theorem r3_over.mono : ∀ a0 a1 a2 k, LeO (r3_over.f k a0 a1 a2) (r3_over.f (k + 1) a0 a1 a2) := by
 intro a0 a1 a2 k
 have ih0 := r3_over.mono_l k
 unfold r3_over.f
 repeat' first
   | (with_reducible exact ih0 _ _ _ _)
   | (with_reducible exact LeO.refl _)
   | (with_reducible exact LeO.none _)
   | (with_reducible refine LeO.ite ?_ ?_)
   | (with_reducible refine LeO.bind ?_ (fun _ => ?_))
def r3_over.T4 : Bool × List (List Nat × List Nat) := (true, [([], []), ([], []), ([0, 1], [0, 1]), ([2], [2]), ([3], [3]), ([], []), ([5], [5]), ([4, 6], [4, 6])])
def r3_over.B4 : List Nat := [0, 0, 3, 7, 15, 0, 32, 127]
theorem r3_over.tab4 : rtab .any (opsOf Try.f67 4) = r3_over.T4 := by kernel_rfl
theorem r3_over.bits4 : waitsOk r3_over.T4.2 r3_over.B4 = true := by kernel_rfl
set_option maxHeartbeats 8000000 in
set_option maxRecDepth 100000 in
theorem r3_over.calls (k : Nat) (a0_0 : Int) (a0_1 : Int) (A1 : Option Addr) (c1 : Nat) (l1 : List Int) (r : Bool) (w : World) (hr1 : Kd.C (Kd.int .u8) w A1 l1.length l1) (hc1 : l1.length ≤ c1) (h : r3_over.f k a0_0 a0_1 l1 = some r) :
  Calls Try.prog 67 #[.agg #[.int .i64 a0_0, .int .u64 a0_1], .slice A1 l1.length c1] w fun e w' => e = .returned (.bool r) ∧ Below w.heap.size w w' := by
 have hu24 := Try.underlying24
 have HR1 := Aside0.mk hr1
 have HC1 := Aside0.mk hc1
 clear hr1 hc1
 have HB := aK (Below.refl w.heap.size w)
 have H : (r3_over.l0 k l1 0 a0_0 a0_1) = some r := h
 clear h
 have H' := Aside0.mk H
 clear H
 go_enter Try.func67, Try.ntmps67
 go_wp2_with (first | ((with_reducible refine gate_dst (N := 2) rfl ?_); refine box_event ?hg (N := 2) ?hd (cs := #[.int .i64 a0_0, .int .u64 a0_1]) (t := 24) ?hr ?_; (case hd => rfl); (case hg => rfl); (case hr => first | (go_simp; done) | (go_simp; rfl)); intro gb466 hg w3 hbox hb; have n0_ := aK (below_step (mvh HB.out) hb); have n1_ := aK (hbox); have n2_ := aK ((by rw [hg]; exact (below_size (mvh HB.out)) : w.heap.size ≤ gb466)); have n3_ := aK ((by rw [hg]; exact (below_size (mvh HB.out)) : w.heap.size ≤ gb466)); clear HB; have HB := n0_; have BK466 := n1_; have GW466 := n2_; have GE466 := n3_; clear n0_ n1_ n2_ n3_; clear hb hbox hg))
 go_loopg [5] k (fun kq v5 w' => ∃ (x5_1 : Int), v5 = .int .i64 x5_1 ∧ Aside0 (r3_over.l0 kq l1 x5_1 a0_0 a0_1 = some r) ∧ Aside0 (kq ≤ k) ∧ Aside0 (w'.heap[gb466]? = some (.cells #[.int .i64 a0_0, .int .u64 a0_1] 24 (0, 0))) ∧ Aside0 (Below w.heap.size w w'))
 case atStart => exact ⟨(0), (by first | rfl | (simp; done) | (simp [*]; done) | (simp [wrap64]; done)), H', ⟨Nat.le_refl _⟩, ⟨mvb BK466.out⟩, ⟨mvh HB.out⟩⟩
 case round =>
  clear H'
  (try clear c1); (try clear p2)
  obtain ⟨x5_1, rfl, HA, HK1, BK466, HB⟩ := hrel
  cases gk with
  | zero => exact absurd HA.out (by simp [r3_over.l0])
  | succ k1 =>
   have H := HA.out
   clear HA
   simp only [r3_over.l0] at H
   by_cases c4 : x5_1 < (l1.length : Int)
   rotate_left
   ·rw [if_neg c4] at H
    have c4b0 : decide (x5_1 < (l1.length : Int)) = false := decide_eq_false c4
    clear c4
    obtain rfl := Option.some.inj H
    go_wp2
    go_ret
    exact ⟨by first | rfl | (simp [errW_none, errW_some] <;> rfl) | (simp [*, errW_none, errW_some] <;> rfl), mvh HB.out⟩

   rw [if_pos c4] at H
   have c4b0 : decide (x5_1 < (l1.length : Int)) = true := decide_eq_true c4
   clear c4
   by_cases c5 : 0 ≤ x5_1
   rotate_left
   ·rw [if_neg c5] at H
    exact absurd H (by simp)
   rw [if_pos c5] at H
   have c5b0 : decide (0 ≤ x5_1) = true := decide_eq_true c5
   clear c5
   replace H := Option.bind_eq_some_iff.mp H
   obtain ⟨t468, A60, H⟩ := H
   try dsimp only at H
   have A6 := Aside0.mk A60
   clear A60
   by_cases c7 : (wrap64 (rd l1 x5_1)) ≥ t468
   ·rw [if_pos c7] at H
    have c7b0 : decide (t468 ≤ (wrap64 (rd l1 x5_1))) = true := decide_eq_true c7
    clear c7
    obtain rfl := Option.some.inj H
    try go_wp2
    have n0_ := aK (blk_drew BK466.out)
    have n1_ := aK (below_drew1 HB.out)
    clear BK466 HB
    have BK466 := n0_
    have HB := n1_
    clear n0_ n1_
    have p467 : 0 ≤ (x5_1 : Int) := of_decide_eq_true (by first | (with_reducible assumption) | assumption)
    have q467 : x5_1 < (l1.length : Int) := of_decide_eq_true (by first | (with_reducible assumption) | assumption)
    obtain ⟨ad467, e467, hx467_0⟩ := Kd.at_int HR1.out x5_1 p467 q467
    have hw467_0 := hx467_0
    cases e467
    replace hx467_0 := (HB.out.cell (World.block_lt_of_cell? w _ hx467_0)).trans hx467_0
    replace p467 := eq_true p467
    replace q467 := eq_true q467
    refine start_ (n := 8) (S := fun w' => w'.cell? ⟨gb466, 0, none⟩ = some (.int .i64 a0_0) ∧ w'.cell? ⟨gb466, 1, none⟩ = some (.int .u64 a0_1) ∧ w'.cell? (ad467.add (x5_1).toNat) = some (.int .u8 (rd l1 x5_1))) (ds := []) #[false, false, false, false, false, false, false, false] (by kernel_rfl) rfl rfl ⟨(blk_cell BK466.out 0).trans rfl, (blk_cell BK466.out 1).trans rfl, ((HB.out.cell (World.block_lt_of_cell? w _ hw467_0)).trans hw467_0)⟩ (fun hHeld => ?_); refine with_tabW r3_over.tab4 r3_over.bits4 (fun HT_ HW_ => ?_)
    generalize wr.drew = w8 at BK466 HB hx467_0 hHeld ⊢
    refine pure_ (i := 0) (N := some 12) (v := ?_) (a' := ?_) #[true, false, false, false, false, false, false, false] rfl rfl (any_of HT_.out (by kernel_rfl)) (fun _ _ _ h => h) (Or.inl ⟨by rfl, ?_⟩) ?_ ?_
    rotate_left
    ·intro w'
     go_simp
     with_reducible rfl
    rotate_left
    ·simp only [Act.put, List.setIfInBounds_toArray, List.set_cons_zero, List.set_cons_succ, i64_w, i32_w]
     rfl
    refine pure_ (i := 1) (N := some 13) (v := ?_) (a' := ?_) #[true, true, false, false, false, false, false, false] rfl rfl (any_of HT_.out (by kernel_rfl)) (fun _ _ _ h => h) (Or.inl ⟨by rfl, ?_⟩) ?_ ?_
    rotate_left
    ·intro w'
     go_simp
     with_reducible rfl
    rotate_left
    ·simp only [Act.put, List.setIfInBounds_toArray, List.set_cons_zero, List.set_cons_succ, i64_w, i32_w]
     rfl
    refine pure_ (i := 2) (N := some 14) (v := ?_) (a' := ?_) #[true, true, true, false, false, false, false, false] rfl rfl (any_of HT_.out (by kernel_rfl)) (fun _ _ _ h => h) (Or.inl ⟨by rfl, ?_⟩) ?_ ?_
    rotate_left
    ·intro w'
     go_simp
     with_reducible rfl
    rotate_left
    ·simp only [Act.put, List.setIfInBounds_toArray, List.set_cons_zero, List.set_cons_succ, i64_w, i32_w]
     rfl
    refine take_ (i := 3) (N := some 15) (v := ?_) (a' := ?_) #[true, true, true, true, false, false, false, false] rfl rfl (take_ofW HT_.out HW_.out (by kernel_rfl)) (fun _ _ _ h => h) (Or.inl ⟨by rfl, ?_⟩) hHeld ?_ ?_
    rotate_left
    ·rintro w' ⟨s0, s1, s2⟩
     go_simp
     with_reducible rfl
    rotate_left
    ·simp only [Act.put, List.setIfInBounds_toArray, List.set_cons_zero, List.set_cons_succ, i64_w, i32_w]
     rfl
    refine pure_ (i := 4) (N := some 16) (v := ?_) (a' := ?_) #[true, true, true, true, true, false, false, false] rfl rfl (any_of HT_.out (by kernel_rfl)) (fun _ _ _ h => h) (Or.inl ⟨by rfl, ?_⟩) ?_ ?_
    rotate_left
    ·intro w'
     go_simp
     with_reducible rfl
    rotate_left
    ·simp only [Act.put, List.setIfInBounds_toArray, List.set_cons_zero, List.set_cons_succ, i64_w, i32_w]
     rfl
    refine take_ (i := 5) (N := some 17) (v := ?_) (a' := ?_) #[true, true, true, true, true, true, false, false] rfl rfl (take_ofW HT_.out HW_.out (by kernel_rfl)) (fun _ _ _ h => h) (Or.inl ⟨by rfl, ?_⟩) hHeld ?_ ?_
    rotate_left
    ·rintro w' ⟨s0, s1, s2⟩
     go_simp
     with_reducible rfl
    rotate_left
    ·simp only [Act.put, List.setIfInBounds_toArray, List.set_cons_zero, List.set_cons_succ, i64_w, i32_w]
     rfl
    refine one_ (i := 6) (N := some 18) #[true, true, true, true, true, true, true, false] rfl rfl (one_of HT_.out (by kernel_rfl)) (by decide) (fun K hK => ?_)
    refine goes_ Try.func34 (by kernel_rfl) rfl #[.agg #[.int .i64 a0_0, .int .u64 a0_1]] (by rfl) rfl rfl (by (try simp only [List.map_toArray, List.map_cons, List.map_nil]) <;> rfl) ?_
    with_reducible refine (r3_Size.calls a0_0 a0_1 t468 _ A6.out).mono ?_
    rintro e w9 ⟨rfl, hb⟩
    refine ⟨_, rfl, ?_⟩
    have n0_ := aK (kb BK466.out hb)
    have n1_ := aK (below_step (mvh HB.out) hb)
    clear BK466 HB
    have BK466 := n0_
    have HB := n1_
    clear n0_ n1_
    (try clear hb)
    refine hK.out _ _ ⟨(blk_cell BK466.out 0).trans rfl, (blk_cell BK466.out 1).trans rfl, ((HB.out.cell (World.block_lt_of_cell? w _ hw467_0)).trans hw467_0)⟩ (fun hHeld => ?_)
    clear hK K
    refine norm_ (a' := ?_) ?_ ?_
    rotate_left
    ·show Act.put _ (some 18) _ = _
     simp only [Act.put, List.setIfInBounds_toArray, List.set_cons_zero, List.set_cons_succ, i64_w, i32_w]
     rfl
    refine pure_ (i := 7) (N := some 19) (v := ?_) (a' := ?_) #[true, true, true, true, true, true, true, true] rfl rfl (any_of HT_.out (by kernel_rfl)) (fun _ _ _ h => h) (Or.inl ⟨by rfl, ?_⟩) ?_ ?_
    rotate_left
    ·intro w'
     go_simp
     with_reducible rfl
    rotate_left
    ·simp only [Act.put, List.setIfInBounds_toArray, List.set_cons_zero, List.set_cons_succ, i64_w, i32_w]
     rfl
    refine done_ (done_of HT_.out (by kernel_rfl)) ?_
    try go_wp2
    go_ret
    exact ⟨by first | rfl | (simp [errW_none, errW_some] <;> rfl) | (simp [*, errW_none, errW_some] <;> rfl), mvh HB.out⟩
   ·rw [if_neg c7] at H
    have c7b0 : decide (t468 ≤ (wrap64 (rd l1 x5_1))) = false := decide_eq_false c7
    clear c7
    have H' := Aside0.mk H
    clear H
    try go_wp2
    have n0_ := aK (blk_drew BK466.out)
    have n1_ := aK (below_drew1 HB.out)
    clear BK466 HB
    have BK466 := n0_
    have HB := n1_
    clear n0_ n1_
    have p467 : 0 ≤ (x5_1 : Int) := of_decide_eq_true (by first | (with_reducible assumption) | assumption)
    have q467 : x5_1 < (l1.length : Int) := of_decide_eq_true (by first | (with_reducible assumption) | assumption)
    obtain ⟨ad467, e467, hx467_0⟩ := Kd.at_int HR1.out x5_1 p467 q467
    have hw467_0 := hx467_0
    cases e467
    replace hx467_0 := (HB.out.cell (World.block_lt_of_cell? w _ hx467_0)).trans hx467_0
    replace p467 := eq_true p467
    replace q467 := eq_true q467
    refine start_ (n := 8) (S := fun w' => w'.cell? ⟨gb466, 0, none⟩ = some (.int .i64 a0_0) ∧ w'.cell? ⟨gb466, 1, none⟩ = some (.int .u64 a0_1) ∧ w'.cell? (ad467.add (x5_1).toNat) = some (.int .u8 (rd l1 x5_1))) (ds := []) #[false, false, false, false, false, false, false, false] (by kernel_rfl) rfl rfl ⟨(blk_cell BK466.out 0).trans rfl, (blk_cell BK466.out 1).trans rfl, ((HB.out.cell (World.block_lt_of_cell? w _ hw467_0)).trans hw467_0)⟩ (fun hHeld => ?_); refine with_tabW r3_over.tab4 r3_over.bits4 (fun HT_ HW_ => ?_)
    generalize wr.drew = w10 at BK466 HB hx467_0 hHeld ⊢
    refine pure_ (i := 0) (N := some 12) (v := ?_) (a' := ?_) #[true, false, false, false, false, false, false, false] rfl rfl (any_of HT_.out (by kernel_rfl)) (fun _ _ _ h => h) (Or.inl ⟨by rfl, ?_⟩) ?_ ?_
    rotate_left
    ·intro w'
     go_simp
     with_reducible rfl
    rotate_left
    ·simp only [Act.put, List.setIfInBounds_toArray, List.set_cons_zero, List.set_cons_succ, i64_w, i32_w]
     rfl
    refine pure_ (i := 1) (N := some 13) (v := ?_) (a' := ?_) #[true, true, false, false, false, false, false, false] rfl rfl (any_of HT_.out (by kernel_rfl)) (fun _ _ _ h => h) (Or.inl ⟨by rfl, ?_⟩) ?_ ?_
    rotate_left
    ·intro w'
     go_simp
     with_reducible rfl
    rotate_left
    ·simp only [Act.put, List.setIfInBounds_toArray, List.set_cons_zero, List.set_cons_succ, i64_w, i32_w]
     rfl
    refine pure_ (i := 2) (N := some 14) (v := ?_) (a' := ?_) #[true, true, true, false, false, false, false, false] rfl rfl (any_of HT_.out (by kernel_rfl)) (fun _ _ _ h => h) (Or.inl ⟨by rfl, ?_⟩) ?_ ?_
    rotate_left
    ·intro w'
     go_simp
     with_reducible rfl
    rotate_left
    ·simp only [Act.put, List.setIfInBounds_toArray, List.set_cons_zero, List.set_cons_succ, i64_w, i32_w]
     rfl
    refine take_ (i := 3) (N := some 15) (v := ?_) (a' := ?_) #[true, true, true, true, false, false, false, false] rfl rfl (take_ofW HT_.out HW_.out (by kernel_rfl)) (fun _ _ _ h => h) (Or.inl ⟨by rfl, ?_⟩) hHeld ?_ ?_
    rotate_left
    ·rintro w' ⟨s0, s1, s2⟩
     go_simp
     with_reducible rfl
    rotate_left
    ·simp only [Act.put, List.setIfInBounds_toArray, List.set_cons_zero, List.set_cons_succ, i64_w, i32_w]
     rfl
    refine pure_ (i := 4) (N := some 16) (v := ?_) (a' := ?_) #[true, true, true, true, true, false, false, false] rfl rfl (any_of HT_.out (by kernel_rfl)) (fun _ _ _ h => h) (Or.inl ⟨by rfl, ?_⟩) ?_ ?_
    rotate_left
    ·intro w'
     go_simp
     with_reducible rfl
    rotate_left
    ·simp only [Act.put, List.setIfInBounds_toArray, List.set_cons_zero, List.set_cons_succ, i64_w, i32_w]
     rfl
    refine take_ (i := 5) (N := some 17) (v := ?_) (a' := ?_) #[true, true, true, true, true, true, false, false] rfl rfl (take_ofW HT_.out HW_.out (by kernel_rfl)) (fun _ _ _ h => h) (Or.inl ⟨by rfl, ?_⟩) hHeld ?_ ?_
    rotate_left
    ·rintro w' ⟨s0, s1, s2⟩
     go_simp
     with_reducible rfl
    rotate_left
    ·simp only [Act.put, List.setIfInBounds_toArray, List.set_cons_zero, List.set_cons_succ, i64_w, i32_w]
     rfl
    refine one_ (i := 6) (N := some 18) #[true, true, true, true, true, true, true, false] rfl rfl (one_of HT_.out (by kernel_rfl)) (by decide) (fun K hK => ?_)
    refine goes_ Try.func34 (by kernel_rfl) rfl #[.agg #[.int .i64 a0_0, .int .u64 a0_1]] (by rfl) rfl rfl (by (try simp only [List.map_toArray, List.map_cons, List.map_nil]) <;> rfl) ?_
    with_reducible refine (r3_Size.calls a0_0 a0_1 t468 _ A6.out).mono ?_
    rintro e w11 ⟨rfl, hb⟩
    refine ⟨_, rfl, ?_⟩
    have n0_ := aK (kb BK466.out hb)
    have n1_ := aK (below_step (mvh HB.out) hb)
    clear BK466 HB
    have BK466 := n0_
    have HB := n1_
    clear n0_ n1_
    (try clear hb)
    refine hK.out _ _ ⟨(blk_cell BK466.out 0).trans rfl, (blk_cell BK466.out 1).trans rfl, ((HB.out.cell (World.block_lt_of_cell? w _ hw467_0)).trans hw467_0)⟩ (fun hHeld => ?_)
    clear hK K
    refine norm_ (a' := ?_) ?_ ?_
    rotate_left
    ·show Act.put _ (some 18) _ = _
     simp only [Act.put, List.setIfInBounds_toArray, List.set_cons_zero, List.set_cons_succ, i64_w, i32_w]
     rfl
    refine pure_ (i := 7) (N := some 19) (v := ?_) (a' := ?_) #[true, true, true, true, true, true, true, true] rfl rfl (any_of HT_.out (by kernel_rfl)) (fun _ _ _ h => h) (Or.inl ⟨by rfl, ?_⟩) ?_ ?_
    rotate_left
    ·intro w'
     go_simp
     with_reducible rfl
    rotate_left
    ·simp only [Act.put, List.setIfInBounds_toArray, List.set_cons_zero, List.set_cons_succ, i64_w, i32_w]
     rfl
    refine done_ (done_of HT_.out (by kernel_rfl)) ?_
    try go_wp2
    go_roundg k1
    case measure => have := HK1.out; omega
    case rel => exact ⟨(wrap64 (x5_1 + 1)), (by first | rfl | (simp; done) | (simp [*]; done) | (simp [wrap64]; done)), H', ⟨by have := HK1.out; omega⟩, ⟨mvb BK466.out⟩, ⟨mvh HB.out⟩⟩
def r3_wrong.j0 : Nat → List Int → List Int → Bool → Int → Int → Option (Int)
 | 0, _, _, _, _, _ => none
 | k + 1, x1, x2, x7, x470000, x470001 => if x7 = true then (some 6) else ((r3_over.f k x470000 x470001 x1).bind fun t470 => (if t470 = true then (some 11) else ((r3_over.f k x470000 x470001 x2).bind fun t471 => (if t471 = true then (some 11) else (some 0)))))
def r3_wrong.f (k : Nat) (a0_0 : Int) (a0_1 : Int) (l1 : List Int) (l2 : List Int) : Option (Int) := if (l1.length : Int) > 1024 then (r3_wrong.j0 k l1 l2 true a0_0 a0_1) else (r3_wrong.j0 k l1 l2 (decide ((l2.length : Int) > 1024)) a0_0 a0_1)
theorem r3_wrong.mono_l : ∀ k, (∀ y0 y1 y2 y3 y4, LeO (r3_wrong.j0 k y0 y1 y2 y3 y4) (r3_wrong.j0 (k + 1) y0 y1 y2 y3 y4))
 | 0 => fun _ _ _ _ _ r h => by simp [r3_wrong.j0] at h
 | k + 1 => by
  have ih0 := r3_wrong.mono_l k
  ·intro y0 y1 y2 y3 y4
   unfold r3_wrong.j0
   repeat' first
   | (with_reducible exact ih0 _ _ _ _ _)
   | (with_reducible exact r3_over.mono _ _ _ _)
   | (with_reducible exact LeO.refl _)
   | (with_reducible exact LeO.none _)
   | (with_reducible refine LeO.ite ?_ ?_)
   | (with_reducible refine LeO.bind ?_ (fun _ => ?_))
theorem r3_wrong.mono : ∀ a0 a1 a2 a3 k, LeO (r3_wrong.f k a0 a1 a2 a3) (r3_wrong.f (k + 1) a0 a1 a2 a3) := by
 intro a0 a1 a2 a3 k
 have ih0 := r3_wrong.mono_l k
 unfold r3_wrong.f
 repeat' first
   | (with_reducible exact ih0 _ _ _ _ _)
   | (with_reducible exact r3_over.mono _ _ _ _)
   | (with_reducible exact LeO.refl _)
   | (with_reducible exact LeO.none _)
   | (with_reducible refine LeO.ite ?_ ?_)
   | (with_reducible refine LeO.bind ?_ (fun _ => ?_))
set_option maxHeartbeats 8000000 in
set_option maxRecDepth 100000 in
theorem r3_wrong.calls (k : Nat) (a0_0 : Int) (a0_1 : Int) (A1 : Option Addr) (c1 : Nat) (l1 : List Int) (A2 : Option Addr) (c2 : Nat) (l2 : List Int) (r : Int) (w : World) (hr1 : Kd.C (Kd.int .u8) w A1 l1.length l1) (hc1 : l1.length ≤ c1) (hr2 : Kd.C (Kd.int .u8) w A2 l2.length l2) (hc2 : l2.length ≤ c2) (h : r3_wrong.f k a0_0 a0_1 l1 l2 = some r) :
  Calls Try.prog 45 #[.agg #[.int .i64 a0_0, .int .u64 a0_1], .slice A1 l1.length c1, .slice A2 l2.length c2] w fun e w' => e = .returned (.int .i64 r) ∧ Below w.heap.size w w' := by
 have hu24 := Try.underlying24
 have HR1 := Aside0.mk hr1
 have HC1 := Aside0.mk hc1
 clear hr1 hc1
 have HR2 := Aside0.mk hr2
 have HC2 := Aside0.mk hc2
 clear hr2 hc2
 have HB := aK (Below.refl w.heap.size w)
 have H : (if (l1.length : Int) > 1024 then (r3_wrong.j0 k l1 l2 true a0_0 a0_1) else (r3_wrong.j0 k l1 l2 (decide ((l2.length : Int) > 1024)) a0_0 a0_1)) = some r := h
 clear h
 have HC4 := Aside0.mk H
 clear H
 go_enter Try.func45, Try.ntmps45
 go_upto_region 1 with (first | ((with_reducible refine gate_dst (N := 3) rfl ?_); (try (refine gate_guard (by rfl) ?_; dsimp only)); refine box_event ?hg (N := 3) ?hd (cs := #[.int .i64 a0_0, .int .u64 a0_1]) (t := 24) ?hr ?_; (case hd => rfl); (case hg => rfl); (case hr => first | (go_simp; done) | (go_simp; rfl)); intro gb469 hg w5 hbox hb; have n0_ := aK (below_step (mvh HB.out) hb); have n1_ := aK (hbox); have n2_ := aK ((by rw [hg]; exact (below_size (mvh HB.out)) : w.heap.size ≤ gb469)); have n3_ := aK ((by rw [hg]; exact (below_size (mvh HB.out)) : w.heap.size ≤ gb469)); clear HB; have HB := n0_; have BK469 := n1_; have GW469 := n2_; have GE469 := n3_; clear n0_ n1_ n2_ n3_; clear hb hbox hg))
 (try simp only [Act.put, List.setIfInBounds_toArray, List.set_cons_zero, List.set_cons_succ])
 go_cut [7] (fun v7 wc => ∃ (kq : Nat) (x7_3 : Bool), v7 = .bool x7_3 ∧ Aside0 (r3_wrong.j0 kq l1 l2 x7_3 a0_0 a0_1 = some r) ∧ Aside0 (kq ≤ k) ∧ Aside0 (wc.heap[gb469]? = some (.cells #[.int .i64 a0_0, .int .u64 a0_1] 24 (0, 0))) ∧ Aside0 (Below w.heap.size w wc))
 case first =>
  have H := HC4.out
  clear HC4
  by_cases c6 : (l1.length : Int) > 1024
  ·rw [if_pos c6] at H
   have c6b0 : decide (1024 < (l1.length : Int)) = true := decide_eq_true c6
   have c6b1 : decide (1024 < l1.length) = true := decide_eq_true (by omega)
   clear c6
   (first | rw [c6b0] | (simp only [i64_w, i32_w]; rw [c6b0]) | rw [c6b1] | skip)
   have H' := Aside0.mk H
   clear H
   go_wp2
   go_meet
   case rel => exact ⟨_, (true), (by first | rfl | (simp; done) | (simp [*]; done) | (simp [wrap64]; done)), H', ⟨by first | omega | exact Nat.le_refl _⟩, ⟨mvb BK469.out⟩, ⟨mvh HB.out⟩⟩
  ·rw [if_neg c6] at H
   have c6b0 : decide (1024 < (l1.length : Int)) = false := decide_eq_false c6
   have c6b1 : decide (1024 < l1.length) = false := decide_eq_false (by omega)
   clear c6
   (first | rw [c6b0] | (simp only [i64_w, i32_w]; rw [c6b0]) | rw [c6b1] | skip)
   have H' := Aside0.mk H
   clear H
   go_wp2
   go_meet
   case rel => exact ⟨_, (decide ((l2.length : Int) > 1024)), (by first | rfl | (simp; done) | (simp [*]; done) | (simp [wrap64]; done)), H', ⟨by first | omega | exact Nat.le_refl _⟩, ⟨mvb BK469.out⟩, ⟨mvh HB.out⟩⟩
 case rest =>
  clear HC4
  (try clear c1); (try clear c2); (try clear p2); (try clear c4); (try clear c6); (try clear c6b0); (try clear c6b1); (try clear p6)
  obtain ⟨kq, x7_3, rfl, HA, HJ3, BK469, HB⟩ := hcut
  cases kq with
  | zero => exact absurd HA.out (by simp [r3_wrong.j0])
  | succ kj3 =>
   have H := HA.out
   clear HA
   simp only [r3_wrong.j0] at H
   by_cases c7 : x7_3 = true
   ·subst c7
    have H1 : (some 6) = some r := by rw [if_pos rfl] at H; exact H
    clear H
    have H := H1
    clear H1
    obtain rfl := Option.some.inj H
    go_wp2
    go_ret
    exact ⟨by first | rfl | (simp [errW_none, errW_some] <;> rfl) | (simp [*, errW_none, errW_some] <;> rfl), mvh HB.out⟩
   ·replace c7 := Bool.eq_false_iff.mpr c7
    subst c7
    have H1 : ((r3_over.f kj3 a0_0 a0_1 l1).bind fun t470 => (if t470 = true then (some 11) else ((r3_over.f kj3 a0_0 a0_1 l2).bind fun t471 => (if t471 = true then (some 11) else (some 0))))) = some r := by rw [if_neg (show ¬ (false = true) by decide)] at H; exact H
    clear H
    have H := H1
    clear H1
    replace H := Option.bind_eq_some_iff.mp H
    obtain ⟨t470, A80, H⟩ := H
    try dsimp only at H
    have A8 := Aside0.mk A80
    clear A80
    by_cases c9 : t470 = true
    ·subst c9
     have H1 : (some 11) = some r := by rw [if_pos rfl] at H; exact H
     clear H
     have H := H1
     clear H1
     obtain rfl := Option.some.inj H
     obtain ⟨hcz10_0, hcz10_1, hfz10_0, hfz10_1⟩ := cf2 BK469.out
     go_wp2_with (first | (go_at_call 67; (with_reducible refine (r3_over.calls kj3 a0_0 a0_1 _ _ l1 true _ ?side1 ?side2 A8.out).mono ?_); (case side1 => exact mvC (Kd.C_below HR1.out HB.out)); (case side2 => exact HC1.out); rintro e w11 ⟨rfl, hb⟩; have n0_ := aK (kb BK469.out hb); have n1_ := aK (below_step (mvh HB.out) hb); clear BK469 HB; have BK469 := n0_; have HB := n1_; clear n0_ n1_; (try clear hb)))
     go_ret
     exact ⟨by first | rfl | (simp [errW_none, errW_some] <;> rfl) | (simp [*, errW_none, errW_some] <;> rfl), mvh HB.out⟩
    ·replace c9 := Bool.eq_false_iff.mpr c9
     subst c9
     have H1 : ((r3_over.f kj3 a0_0 a0_1 l2).bind fun t471 => (if t471 = true then (some 11) else (some 0))) = some r := by rw [if_neg (show ¬ (false = true) by decide)] at H; exact H
     clear H
     have H := H1
     clear H1
     replace H := Option.bind_eq_some_iff.mp H
     obtain ⟨t471, A120, H⟩ := H
     try dsimp only at H
     have A12 := Aside0.mk A120
     clear A120
     by_cases c13 : t471 = true
     ·subst c13
      have H1 : (some 11) = some r := by rw [if_pos rfl] at H; exact H
      clear H
      have H := H1
      clear H1
      obtain rfl := Option.some.inj H
      obtain ⟨hcz14_0, hcz14_1, hfz14_0, hfz14_1⟩ := cf2 BK469.out
      go_wp2_with (first | (go_at_call 67; (with_reducible refine (r3_over.calls kj3 a0_0 a0_1 _ _ l1 false _ ?side1 ?side2 A8.out).mono ?_); (case side1 => exact mvC (Kd.C_below HR1.out HB.out)); (case side2 => exact HC1.out); rintro e w15 ⟨rfl, hb⟩; have n0_ := aK (kb BK469.out hb); have n1_ := aK (below_step (mvh HB.out) hb); clear BK469 HB; have BK469 := n0_; have HB := n1_; clear n0_ n1_; (try clear hb); obtain ⟨hcz16_0, hcz16_1, hfz16_0, hfz16_1⟩ := cf2 BK469.out) | (go_at_call 67; (with_reducible refine (r3_over.calls kj3 a0_0 a0_1 _ _ l2 true _ ?side1 ?side2 A12.out).mono ?_); (case side1 => exact mvC (Kd.C_below HR2.out HB.out)); (case side2 => exact HC2.out); rintro e w17 ⟨rfl, hb⟩; have n0_ := aK (kb BK469.out hb); have n1_ := aK (below_step (mvh HB.out) hb); clear BK469 HB; have BK469 := n0_; have HB := n1_; clear n0_ n1_; (try clear hb)))
      go_ret
      exact ⟨by first | rfl | (simp [errW_none, errW_some] <;> rfl) | (simp [*, errW_none, errW_some] <;> rfl), mvh HB.out⟩
     ·replace c13 := Bool.eq_false_iff.mpr c13
      subst c13
      have H1 : (some 0) = some r := by rw [if_neg (show ¬ (false = true) by decide)] at H; exact H
      clear H
      have H := H1
      clear H1
      obtain rfl := Option.some.inj H
      obtain ⟨hcz18_0, hcz18_1, hfz18_0, hfz18_1⟩ := cf2 BK469.out
      go_wp2_with (first | (go_at_call 67; (with_reducible refine (r3_over.calls kj3 a0_0 a0_1 _ _ l1 false _ ?side1 ?side2 A8.out).mono ?_); (case side1 => exact mvC (Kd.C_below HR1.out HB.out)); (case side2 => exact HC1.out); rintro e w19 ⟨rfl, hb⟩; have n0_ := aK (kb BK469.out hb); have n1_ := aK (below_step (mvh HB.out) hb); clear BK469 HB; have BK469 := n0_; have HB := n1_; clear n0_ n1_; (try clear hb); obtain ⟨hcz20_0, hcz20_1, hfz20_0, hfz20_1⟩ := cf2 BK469.out) | (go_at_call 67; (with_reducible refine (r3_over.calls kj3 a0_0 a0_1 _ _ l2 false _ ?side1 ?side2 A12.out).mono ?_); (case side1 => exact mvC (Kd.C_below HR2.out HB.out)); (case side2 => exact HC2.out); rintro e w21 ⟨rfl, hb⟩; have n0_ := aK (kb BK469.out hb); have n1_ := aK (below_step (mvh HB.out) hb); clear BK469 HB; have BK469 := n0_; have HB := n1_; clear n0_ n1_; (try clear hb)))
      go_ret
      exact ⟨by first | rfl | (simp [errW_none, errW_some] <;> rfl) | (simp [*, errW_none, errW_some] <;> rfl), mvh HB.out⟩

end Go.Proofs.Ytjdkamhnbheofaa.P

-- squeezed
