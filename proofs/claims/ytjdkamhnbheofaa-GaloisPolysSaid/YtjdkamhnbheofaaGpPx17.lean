-- written by mk.sh, a program of this session, over the kit's print
import Derived.Test.YtjdkamhnbheofaaGpPx0
import Derived.Test.YtjdkamhnbheofaaGpPx13
import Derived.Test.YtjdkamhnbheofaaGpPx16
namespace Go.Proofs.Ytjdkamhnbheofaa.P
open Go.RowKit Go.Proofs.YtjdkamhnbheofaaW.PrintWords Go.Proofs.YtjdkamhnbheofaaW.PrintLast Go.Proofs.YtjdkamhnbheofaaW.PrintMore
attribute [local go_sem] max2_int min2_int max_two min_two max_three min_three max_four min_four   -- for this text's walks alone
set_option linter.unusedVariables false
set_option linter.unusedSimpArgs false

def r3_Two.l0 : Nat → Int → Int → Int → Int → Int → Option (Int × Int × Int × Int × Int)
 | 0, _, _, _, _, _ => none
 | k + 1, x1, x2, x11, x526000, x526001 => (r3_times.f k x526000 x526001 x11 x2).bind fun t530 => (if t530 = x1 then ((r3_times.f k x526000 x526001 x1 x2).bind fun t531 => (some (Go.bits .xor .u8 x1 x2, t531, x11, 0, 0))) else (r3_Two.l0 k x1 x2 ((x11 + 1) % 256) x526000 x526001))
def r3_Two.f (k : Nat) (a0_0 : Int) (a0_1 : Int) (a1 : Int) (a2 : Int) : Option (Int × Int × Int × Int × Int) := (r3_over.f k a0_0 a0_1 (([a1, a2] : List Int))).bind fun t529 => (if t529 = true then (some (0, 0, 0, 11, 11)) else (if a2 = 0 then (some (a1, 0, 0, 0, 20)) else (r3_Two.l0 k a1 a2 0 a0_0 a0_1)))
theorem r3_Two.mono_l : ∀ k, (∀ y0 y1 y2 y3 y4, LeO (r3_Two.l0 k y0 y1 y2 y3 y4) (r3_Two.l0 (k + 1) y0 y1 y2 y3 y4))
 | 0 => fun _ _ _ _ _ r h => by simp [r3_Two.l0] at h
 | k + 1 => by
  have ih0 := r3_Two.mono_l k
  ·intro y0 y1 y2 y3 y4
   unfold r3_Two.l0
   repeat' first
   | (with_reducible exact ih0 _ _ _ _ _)
   | (with_reducible exact r3_over.mono _ _ _ _)
   | (with_reducible exact r3_times.mono _ _ _ _ _)
   | (with_reducible exact LeO.refl _)
   | (with_reducible exact LeO.none _)
   | (with_reducible refine LeO.ite ?_ ?_)
   | (with_reducible refine LeO.bind ?_ (fun _ => ?_))
theorem r3_Two.mono : ∀ a0 a1 a2 a3 k, LeO (r3_Two.f k a0 a1 a2 a3) (r3_Two.f (k + 1) a0 a1 a2 a3) := by
 intro a0 a1 a2 a3 k
 have ih0 := r3_Two.mono_l k
 unfold r3_Two.f
 repeat' first
   | (with_reducible exact ih0 _ _ _ _ _)
   | (with_reducible exact r3_over.mono _ _ _ _)
   | (with_reducible exact r3_times.mono _ _ _ _ _)
   | (with_reducible exact LeO.refl _)
   | (with_reducible exact LeO.none _)
   | (with_reducible refine LeO.ite ?_ ?_)
   | (with_reducible refine LeO.bind ?_ (fun _ => ?_))
set_option maxHeartbeats 8000000 in
set_option maxRecDepth 100000 in
theorem r3_Two.calls (k : Nat) (a0_0 : Int) (a0_1 : Int) (a1 : Int) (a2 : Int) (r1 : Int) (r2 : Int) (r3 : Int) (r4 : Int) (r5 : Int) (w : World) (h : r3_Two.f k a0_0 a0_1 a1 a2 = some (r1, r2, r3, r4, r5)) :
  Calls Try.prog 68 #[.agg #[.int .i64 a0_0, .int .u64 a0_1], .int .u8 a1, .int .u8 a2] w fun e w' => e = .returned (.tuple #[.int .u8 r1, .int .u8 r2, .int .u8 r3, .int .i64 r4, .int .i64 r5]) ∧ Below w.heap.size w w' := by
 have hu24 := Try.underlying24
 have HB := aK (Below.refl w.heap.size w)
 have H : ((r3_over.f k a0_0 a0_1 (([a1, a2] : List Int))).bind fun t529 => (if t529 = true then (some (0, 0, 0, 11, 11)) else (if a2 = 0 then (some (a1, 0, 0, 0, 20)) else (r3_Two.l0 k a1 a2 0 a0_0 a0_1)))) = some (r1, r2, r3, r4, r5) := h
 clear h
 obtain ⟨y526, hy526⟩ : ∃ y_ : List Int, y_ = (([a1, a2] : List Int)) := ⟨_, rfl⟩
 replace H : ((r3_over.f k a0_0 a0_1 y526).bind fun t529 => (if t529 = true then (some (0, 0, 0, 11, 11)) else (if a2 = 0 then (some (a1, 0, 0, 0, 20)) else (r3_Two.l0 k a1 a2 0 a0_0 a0_1)))) = some (r1, r2, r3, r4, r5) := by rw [hy526]; exact H
 have Ny526 := Aside0.mk hy526
 clear hy526
 replace H := Option.bind_eq_some_iff.mp H
 obtain ⟨t529, A40, H⟩ := H
 try dsimp only at H
 have A4 := Aside0.mk A40
 clear A40
 by_cases c5 : t529 = true
 ·subst c5
  have H1 : (some (0, 0, 0, 11, 11)) = some (r1, r2, r3, r4, r5) := by rw [if_pos rfl] at H; exact H
  clear H
  have H := H1
  clear H1
  simp only [Option.some.injEq, Prod.mk.injEq] at H
  obtain ⟨rfl, rfl, rfl, rfl, rfl⟩ := H
  go_enter Try.func68, Try.ntmps68
  go_wp2_with (first | ((with_reducible refine gate_dst (N := 3) rfl ?_); refine box_event ?hg (N := 3) ?hd (cs := #[.int .i64 a0_0, .int .u64 a0_1]) (t := 24) ?hr ?_; (case hd => rfl); (case hg => rfl); (case hr => first | (go_simp; done) | (go_simp; rfl)); intro gb525 hg w6 hbox hb; have n0_ := aK (below_step (mvh HB.out) hb); have n1_ := aK (hbox); have n2_ := aK ((by rw [hg]; exact (below_size (mvh HB.out)) : w.heap.size ≤ gb525)); have n3_ := aK ((by rw [hg]; exact (below_size (mvh HB.out)) : w.heap.size ≤ gb525)); clear HB; have HB := n0_; have BK525 := n1_; have GW525 := n2_; have GE525 := n3_; clear n0_ n1_ n2_ n3_; clear hb hbox hg; obtain ⟨hcz7_0, hcz7_1, hfz7_0, hfz7_1⟩ := cf2 BK525.out) | ((with_reducible refine gate_dst (N := 15) rfl ?_); refine Kd.R_lit (Kd.int .u8) _ 5 ?hg (N := 15) ?hd (xs := ([a1, a2] : List Int)) (inner := [.int .u8 a1, .int .u8 a2]) (ok := fun _ => True) (okp := fun _ => True) ?hr ?hp (fun _ hk => hk) trivial (Below.refl _ _) (Nat.le_refl _) (by simp) ?_; (case hd => rfl); (case hg => rfl); (case hr => first | (go_simp; done) | (go_simp; rfl)); (case hp => exact (Reps.one (show Kd.M (Kd.int .u8) _ _ _ a1 [.int .u8 a1] from rfl) (Reps.one (show Kd.M (Kd.int .u8) _ _ _ a2 [.int .u8 a2] from rfl) (Reps.none _ _)))); intro v527 w8 ho9 hb hg_ hnew_; clear hg_ hnew_; (first | rw [← Ny526.out] at ho9 | (simp only [Int.reduceToNat] at ho9; rw [← Ny526.out] at ho9)); have n0_ := aK (Kd.R_lower ho9 (below_size (mvh HB.out))); have n1_ := aK (kb BK525.out hb); have n2_ := aK (below_step (mvh HB.out) hb); clear BK525 HB; have HO528 := n0_; have BK525 := n1_; have HB := n2_; clear n0_ n1_ n2_; clear hb ho9; obtain ⟨Ao10, co10, eo10⟩ := Kd.R_slice HO528.out; subst eo10) | (go_at_call 67; (with_reducible refine (r3_over.calls k a0_0 a0_1 _ _ y526 true _ ?side1 ?side2 A4.out).mono ?_); (case side1 => exact mvC (Kd.R_reads' HO528.out).2.2); (case side2 => exact (Kd.R_reads' HO528.out).2.1); rintro e w11 ⟨rfl, hb⟩; have n0_ := aK (Kd.R_below (mvR HO528.out) hb); have n1_ := aK (kb BK525.out hb); have n2_ := aK (below_step (mvh HB.out) hb); clear HO528 BK525 HB; have HO528 := n0_; have BK525 := n1_; have HB := n2_; clear n0_ n1_ n2_; (try clear hb)))
  refine bodyPost_ret (results_list (rs := [.tmp 6, .tmp 7, .tmp 8, .tmp 9, .tmp 10]) rfl (by simp) (.tmp (.tmp (.tmp (.tmp (.tmp .nil)))))) rfl ?_
  exact ⟨by first | rfl | (simp [errW_none, errW_some] <;> rfl) | (simp [*, errW_none, errW_some] <;> rfl), mvh HB.out⟩
 ·replace c5 := Bool.eq_false_iff.mpr c5
  subst c5
  have H1 : (if a2 = 0 then (some (a1, 0, 0, 0, 20)) else (r3_Two.l0 k a1 a2 0 a0_0 a0_1)) = some (r1, r2, r3, r4, r5) := by rw [if_neg (show ¬ (false = true) by decide)] at H; exact H
  clear H
  have H := H1
  clear H1
  by_cases c12 : a2 = 0
  ·rw [if_pos c12] at H
   have c12b0 : (a2 == 0) = true := beq_iff_eq.mpr c12
   have c12b1 : (a2 != 0) = false := bne_eq_false_iff_eq.mpr c12
   clear c12
   simp only [Option.some.injEq, Prod.mk.injEq] at H
   obtain ⟨rfl, rfl, rfl, rfl, rfl⟩ := H
   go_enter Try.func68, Try.ntmps68
   go_wp2_with (first | ((with_reducible refine gate_dst (N := 3) rfl ?_); refine box_event ?hg (N := 3) ?hd (cs := #[.int .i64 a0_0, .int .u64 a0_1]) (t := 24) ?hr ?_; (case hd => rfl); (case hg => rfl); (case hr => first | (go_simp; done) | (go_simp; rfl)); intro gb525 hg w13 hbox hb; have n0_ := aK (below_step (mvh HB.out) hb); have n1_ := aK (hbox); have n2_ := aK ((by rw [hg]; exact (below_size (mvh HB.out)) : w.heap.size ≤ gb525)); have n3_ := aK ((by rw [hg]; exact (below_size (mvh HB.out)) : w.heap.size ≤ gb525)); clear HB; have HB := n0_; have BK525 := n1_; have GW525 := n2_; have GE525 := n3_; clear n0_ n1_ n2_ n3_; clear hb hbox hg; obtain ⟨hcz14_0, hcz14_1, hfz14_0, hfz14_1⟩ := cf2 BK525.out) | ((with_reducible refine gate_dst (N := 15) rfl ?_); refine Kd.R_lit (Kd.int .u8) _ 5 ?hg (N := 15) ?hd (xs := ([a1, a2] : List Int)) (inner := [.int .u8 a1, .int .u8 a2]) (ok := fun _ => True) (okp := fun _ => True) ?hr ?hp (fun _ hk => hk) trivial (Below.refl _ _) (Nat.le_refl _) (by simp) ?_; (case hd => rfl); (case hg => rfl); (case hr => first | (go_simp; done) | (go_simp; rfl)); (case hp => exact (Reps.one (show Kd.M (Kd.int .u8) _ _ _ a1 [.int .u8 a1] from rfl) (Reps.one (show Kd.M (Kd.int .u8) _ _ _ a2 [.int .u8 a2] from rfl) (Reps.none _ _)))); intro v527 w15 ho16 hb hg_ hnew_; clear hg_ hnew_; (first | rw [← Ny526.out] at ho16 | (simp only [Int.reduceToNat] at ho16; rw [← Ny526.out] at ho16)); have n0_ := aK (Kd.R_lower ho16 (below_size (mvh HB.out))); have n1_ := aK (kb BK525.out hb); have n2_ := aK (below_step (mvh HB.out) hb); clear BK525 HB; have HO528 := n0_; have BK525 := n1_; have HB := n2_; clear n0_ n1_ n2_; clear hb ho16; obtain ⟨Ao17, co17, eo17⟩ := Kd.R_slice HO528.out; subst eo17) | (go_at_call 67; (with_reducible refine (r3_over.calls k a0_0 a0_1 _ _ y526 false _ ?side1 ?side2 A4.out).mono ?_); (case side1 => exact mvC (Kd.R_reads' HO528.out).2.2); (case side2 => exact (Kd.R_reads' HO528.out).2.1); rintro e w18 ⟨rfl, hb⟩; have n0_ := aK (Kd.R_below (mvR HO528.out) hb); have n1_ := aK (kb BK525.out hb); have n2_ := aK (below_step (mvh HB.out) hb); clear HO528 BK525 HB; have HO528 := n0_; have BK525 := n1_; have HB := n2_; clear n0_ n1_ n2_; (try clear hb)))
   refine bodyPost_ret (results_list (rs := [.tmp 6, .tmp 7, .tmp 8, .tmp 9, .tmp 10]) rfl (by simp) (.tmp (.tmp (.tmp (.tmp (.tmp .nil)))))) rfl ?_
   exact ⟨by first | rfl | (simp [errW_none, errW_some] <;> rfl) | (simp [*, errW_none, errW_some] <;> rfl), mvh HB.out⟩
  ·rw [if_neg c12] at H
   have c12b0 : (a2 == 0) = false := beq_eq_false_iff_ne.mpr c12
   have c12b1 : (a2 != 0) = true := bne_iff_ne.mpr c12
   have H' := Aside0.mk H
   clear H
   go_enter Try.func68, Try.ntmps68
   go_wp2_with (first | ((with_reducible refine gate_dst (N := 3) rfl ?_); refine box_event ?hg (N := 3) ?hd (cs := #[.int .i64 a0_0, .int .u64 a0_1]) (t := 24) ?hr ?_; (case hd => rfl); (case hg => rfl); (case hr => first | (go_simp; done) | (go_simp; rfl)); intro gb525 hg w19 hbox hb; have n0_ := aK (below_step (mvh HB.out) hb); have n1_ := aK (hbox); have n2_ := aK ((by rw [hg]; exact (below_size (mvh HB.out)) : w.heap.size ≤ gb525)); have n3_ := aK ((by rw [hg]; exact (below_size (mvh HB.out)) : w.heap.size ≤ gb525)); clear HB; have HB := n0_; have BK525 := n1_; have GW525 := n2_; have GE525 := n3_; clear n0_ n1_ n2_ n3_; clear hb hbox hg; obtain ⟨hcz20_0, hcz20_1, hfz20_0, hfz20_1⟩ := cf2 BK525.out) | ((with_reducible refine gate_dst (N := 15) rfl ?_); refine Kd.R_lit (Kd.int .u8) _ 5 ?hg (N := 15) ?hd (xs := ([a1, a2] : List Int)) (inner := [.int .u8 a1, .int .u8 a2]) (ok := fun _ => True) (okp := fun _ => True) ?hr ?hp (fun _ hk => hk) trivial (Below.refl _ _) (Nat.le_refl _) (by simp) ?_; (case hd => rfl); (case hg => rfl); (case hr => first | (go_simp; done) | (go_simp; rfl)); (case hp => exact (Reps.one (show Kd.M (Kd.int .u8) _ _ _ a1 [.int .u8 a1] from rfl) (Reps.one (show Kd.M (Kd.int .u8) _ _ _ a2 [.int .u8 a2] from rfl) (Reps.none _ _)))); intro v527 w21 ho22 hb hg_ hnew_; clear hg_ hnew_; (first | rw [← Ny526.out] at ho22 | (simp only [Int.reduceToNat] at ho22; rw [← Ny526.out] at ho22)); have n0_ := aK (Kd.R_lower ho22 (below_size (mvh HB.out))); have n1_ := aK (kb BK525.out hb); have n2_ := aK (below_step (mvh HB.out) hb); clear BK525 HB; have HO528 := n0_; have BK525 := n1_; have HB := n2_; clear n0_ n1_ n2_; clear hb ho22; obtain ⟨Ao23, co23, eo23⟩ := Kd.R_slice HO528.out; subst eo23) | (go_at_call 67; (with_reducible refine (r3_over.calls k a0_0 a0_1 _ _ y526 false _ ?side1 ?side2 A4.out).mono ?_); (case side1 => exact mvC (Kd.R_reads' HO528.out).2.2); (case side2 => exact (Kd.R_reads' HO528.out).2.1); rintro e w24 ⟨rfl, hb⟩; have n0_ := aK (Kd.R_below (mvR HO528.out) hb); have n1_ := aK (kb BK525.out hb); have n2_ := aK (below_step (mvh HB.out) hb); clear HO528 BK525 HB; have HO528 := n0_; have BK525 := n1_; have HB := n2_; clear n0_ n1_ n2_; (try clear hb)))
   go_loopg [11] k (fun kq v11 w' => ∃ (x11_1 : Int), v11 = .int .u8 x11_1 ∧ Aside0 (r3_Two.l0 kq a1 a2 x11_1 a0_0 a0_1 = some (r1, r2, r3, r4, r5)) ∧ Aside0 (kq ≤ k) ∧ Aside0 (w'.heap[gb525]? = some (.cells #[.int .i64 a0_0, .int .u64 a0_1] 24 (0, 0))) ∧ Aside0 (Below w.heap.size w w'))
   case atStart => exact ⟨(0), (by first | rfl | (simp; done) | (simp [*]; done) | (simp [wrap64]; done)), H', ⟨Nat.le_refl _⟩, ⟨mvb BK525.out⟩, ⟨mvh HB.out⟩⟩
   case round =>
    clear H'
    (try clear c1); (try clear p2); (try clear c5); (try clear c6); (try clear p6); (try clear c12); (try clear c12b0); (try clear c12b1); (try clear hcz14_0); (try clear hcz14_1); (try clear hcz20_0); (try clear hcz20_1); (try clear hcz7_0); (try clear hcz7_1); (try clear hfz14_0); (try clear hfz14_1)
    (try clear hfz20_0); (try clear hfz20_1); (try clear hfz7_0); (try clear hfz7_1)
    obtain ⟨x11_1, rfl, HA, HK1, BK525, HB⟩ := hrel
    cases gk with
    | zero => exact absurd HA.out (by simp [r3_Two.l0])
    | succ k1 =>
     have H := HA.out
     clear HA
     simp only [r3_Two.l0] at H
     replace H := Option.bind_eq_some_iff.mp H
     obtain ⟨t530, A250, H⟩ := H
     try dsimp only at H
     have A25 := Aside0.mk A250
     clear A250
     by_cases c26 : t530 = a1
     rotate_left
     ·rw [if_neg c26] at H
      have c26b0 : (t530 == a1) = false := beq_eq_false_iff_ne.mpr c26
      have c26b1 : (t530 != a1) = true := bne_iff_ne.mpr c26
      have H' := Aside0.mk H
      clear H
      obtain ⟨hcz32_0, hcz32_1, hfz32_0, hfz32_1⟩ := cf2 BK525.out
      go_wp2_with (first | (go_at_call 75; (with_reducible refine (r3_times.calls k1 a0_0 a0_1 x11_1 a2 t530 _ A25.out).mono ?_); rintro e w33 ⟨rfl, hb⟩; have n0_ := aK (kb BK525.out hb); have n1_ := aK (below_step (mvh HB.out) hb); clear BK525 HB; have BK525 := n0_; have HB := n1_; clear n0_ n1_; (try clear hb)))
      go_roundg k1
      case measure => have := HK1.out; omega
      case rel => exact ⟨((x11_1 + 1) % 256), (by first | rfl | (simp; done) | (simp [*]; done) | (simp [wrap64]; done)), H', ⟨by have := HK1.out; omega⟩, ⟨mvb BK525.out⟩, ⟨mvh HB.out⟩⟩

     rw [if_pos c26] at H
     have c26b0 : (t530 == a1) = true := beq_iff_eq.mpr c26
     have c26b1 : (t530 != a1) = false := bne_eq_false_iff_eq.mpr c26
     clear c26
     replace H := Option.bind_eq_some_iff.mp H
     obtain ⟨t531, A270, H⟩ := H
     try dsimp only at H
     have A27 := Aside0.mk A270
     clear A270
     simp only [Option.some.injEq, Prod.mk.injEq] at H
     obtain ⟨rfl, rfl, rfl, rfl, rfl⟩ := H
     obtain ⟨hcz28_0, hcz28_1, hfz28_0, hfz28_1⟩ := cf2 BK525.out
     go_wp2_with (first | (go_at_call 75; (with_reducible refine (r3_times.calls k1 a0_0 a0_1 x11_1 a2 t530 _ A25.out).mono ?_); rintro e w29 ⟨rfl, hb⟩; have n0_ := aK (kb BK525.out hb); have n1_ := aK (below_step (mvh HB.out) hb); clear BK525 HB; have BK525 := n0_; have HB := n1_; clear n0_ n1_; (try clear hb); obtain ⟨hcz30_0, hcz30_1, hfz30_0, hfz30_1⟩ := cf2 BK525.out) | (go_at_call 75; (with_reducible refine (r3_times.calls k1 a0_0 a0_1 a1 a2 t531 _ A27.out).mono ?_); rintro e w31 ⟨rfl, hb⟩; have n0_ := aK (kb BK525.out hb); have n1_ := aK (below_step (mvh HB.out) hb); clear BK525 HB; have BK525 := n0_; have HB := n1_; clear n0_ n1_; (try clear hb)))
     refine bodyPost_ret (results_list (rs := [.tmp 6, .tmp 7, .tmp 8, .tmp 9, .tmp 10]) rfl (by simp) (.tmp (.tmp (.tmp (.tmp (.tmp .nil)))))) rfl ?_
     exact ⟨by first | rfl | (simp [errW_none, errW_some] <;> rfl) | (simp [*, errW_none, errW_some] <;> rfl), mvh HB.out⟩
def r3_Inv.f (k : Nat) (a0_0 : Int) (a0_1 : Int) (a1 : Int) : Option (Int × Int) := (r3_over.f k a0_0 a0_1 (([a1] : List Int))).bind fun t536 => (if t536 = true then (some (0, 11)) else ((r3_Two.f k a0_0 a0_1 1 a1).bind fun bt537 => (some (bt537.2.2.1, bt537.2.2.2.2))))
theorem r3_Inv.mono : ∀ a0 a1 a2 k, LeO (r3_Inv.f k a0 a1 a2) (r3_Inv.f (k + 1) a0 a1 a2) := by
 intro a0 a1 a2 k
 unfold r3_Inv.f
 repeat' first
   | (with_reducible exact r3_Two.mono _ _ _ _ _)
   | (with_reducible exact r3_over.mono _ _ _ _)
   | (with_reducible exact LeO.refl _)
   | (with_reducible exact LeO.none _)
   | (with_reducible refine LeO.ite ?_ ?_)
   | (with_reducible refine LeO.bind ?_ (fun _ => ?_))
set_option maxHeartbeats 8000000 in
set_option maxRecDepth 100000 in
theorem r3_Inv.calls (k : Nat) (a0_0 : Int) (a0_1 : Int) (a1 : Int) (r1 : Int) (r2 : Int) (w : World) (h : r3_Inv.f k a0_0 a0_1 a1 = some (r1, r2)) :
  Calls Try.prog 47 #[.agg #[.int .i64 a0_0, .int .u64 a0_1], .int .u8 a1] w fun e w' => e = .returned (.tuple #[.int .u8 r1, .int .i64 r2]) ∧ Below w.heap.size w w' := by
 have hu24 := Try.underlying24
 have HB := aK (Below.refl w.heap.size w)
 have H : ((r3_over.f k a0_0 a0_1 (([a1] : List Int))).bind fun t536 => (if t536 = true then (some (0, 11)) else ((r3_Two.f k a0_0 a0_1 1 a1).bind fun bt537 => (some (bt537.2.2.1, bt537.2.2.2.2))))) = some (r1, r2) := h
 clear h
 obtain ⟨y533, hy533⟩ : ∃ y_ : List Int, y_ = (([a1] : List Int)) := ⟨_, rfl⟩
 replace H : ((r3_over.f k a0_0 a0_1 y533).bind fun t536 => (if t536 = true then (some (0, 11)) else ((r3_Two.f k a0_0 a0_1 1 a1).bind fun bt537 => (some (bt537.2.2.1, bt537.2.2.2.2))))) = some (r1, r2) := by rw [hy533]; exact H
 have Ny533 := Aside0.mk hy533
 clear hy533
 replace H := Option.bind_eq_some_iff.mp H
 obtain ⟨t536, A30, H⟩ := H
 try dsimp only at H
 have A3 := Aside0.mk A30
 clear A30
 by_cases c4 : t536 = true
 ·subst c4
  have H1 : (some (0, 11)) = some (r1, r2) := by rw [if_pos rfl] at H; exact H
  clear H
  have H := H1
  clear H1
  simp only [Option.some.injEq, Prod.mk.injEq] at H
  obtain ⟨rfl, rfl⟩ := H
  go_enter Try.func47, Try.ntmps47
  go_wp2_with (first | ((with_reducible refine gate_dst (N := 2) rfl ?_); refine box_event ?hg (N := 2) ?hd (cs := #[.int .i64 a0_0, .int .u64 a0_1]) (t := 24) ?hr ?_; (case hd => rfl); (case hg => rfl); (case hr => first | (go_simp; done) | (go_simp; rfl)); intro gb532 hg w5 hbox hb; have n0_ := aK (below_step (mvh HB.out) hb); have n1_ := aK (hbox); have n2_ := aK ((by rw [hg]; exact (below_size (mvh HB.out)) : w.heap.size ≤ gb532)); have n3_ := aK ((by rw [hg]; exact (below_size (mvh HB.out)) : w.heap.size ≤ gb532)); clear HB; have HB := n0_; have BK532 := n1_; have GW532 := n2_; have GE532 := n3_; clear n0_ n1_ n2_ n3_; clear hb hbox hg; obtain ⟨hcz6_0, hcz6_1, hfz6_0, hfz6_1⟩ := cf2 BK532.out) | ((with_reducible refine gate_dst (N := 13) rfl ?_); refine Kd.R_lit (Kd.int .u8) _ 5 ?hg (N := 13) ?hd (xs := ([a1] : List Int)) (inner := [.int .u8 a1]) (ok := fun _ => True) (okp := fun _ => True) ?hr ?hp (fun _ hk => hk) trivial (Below.refl _ _) (Nat.le_refl _) (by simp) ?_; (case hd => rfl); (case hg => rfl); (case hr => first | (go_simp; done) | (go_simp; rfl)); (case hp => exact (Reps.one (show Kd.M (Kd.int .u8) _ _ _ a1 [.int .u8 a1] from rfl) (Reps.none _ _))); intro v534 w7 ho8 hb hg_ hnew_; clear hg_ hnew_; (first | rw [← Ny533.out] at ho8 | (simp only [Int.reduceToNat] at ho8; rw [← Ny533.out] at ho8)); have n0_ := aK (Kd.R_lower ho8 (below_size (mvh HB.out))); have n1_ := aK (kb BK532.out hb); have n2_ := aK (below_step (mvh HB.out) hb); clear BK532 HB; have HO535 := n0_; have BK532 := n1_; have HB := n2_; clear n0_ n1_ n2_; clear hb ho8; obtain ⟨Ao9, co9, eo9⟩ := Kd.R_slice HO535.out; subst eo9) | (go_at_call 67; (with_reducible refine (r3_over.calls k a0_0 a0_1 _ _ y533 true _ ?side1 ?side2 A3.out).mono ?_); (case side1 => exact mvC (Kd.R_reads' HO535.out).2.2); (case side2 => exact (Kd.R_reads' HO535.out).2.1); rintro e w10 ⟨rfl, hb⟩; have n0_ := aK (Kd.R_below (mvR HO535.out) hb); have n1_ := aK (kb BK532.out hb); have n2_ := aK (below_step (mvh HB.out) hb); clear HO535 BK532 HB; have HO535 := n0_; have BK532 := n1_; have HB := n2_; clear n0_ n1_ n2_; (try clear hb)))
  go_ret2
  exact ⟨by first | rfl | (simp [errW_none, errW_some] <;> rfl) | (simp [*, errW_none, errW_some] <;> rfl), mvh HB.out⟩
 ·replace c4 := Bool.eq_false_iff.mpr c4
  subst c4
  have H1 : ((r3_Two.f k a0_0 a0_1 1 a1).bind fun bt537 => (some (bt537.2.2.1, bt537.2.2.2.2))) = some (r1, r2) := by rw [if_neg (show ¬ (false = true) by decide)] at H; exact H
  clear H
  have H := H1
  clear H1
  replace H := Option.bind_eq_some_iff.mp H
  obtain ⟨⟨t537, t538, t539, t540, t541⟩, A110, H⟩ := H
  replace H : (some (t539, t541)) = some (r1, r2) := H
  have A11 := Aside0.mk A110
  clear A110
  simp only [Option.some.injEq, Prod.mk.injEq] at H
  obtain ⟨rfl, rfl⟩ := H
  go_enter Try.func47, Try.ntmps47
  go_wp2_with (first | ((with_reducible refine gate_dst (N := 2) rfl ?_); refine box_event ?hg (N := 2) ?hd (cs := #[.int .i64 a0_0, .int .u64 a0_1]) (t := 24) ?hr ?_; (case hd => rfl); (case hg => rfl); (case hr => first | (go_simp; done) | (go_simp; rfl)); intro gb532 hg w12 hbox hb; have n0_ := aK (below_step (mvh HB.out) hb); have n1_ := aK (hbox); have n2_ := aK ((by rw [hg]; exact (below_size (mvh HB.out)) : w.heap.size ≤ gb532)); have n3_ := aK ((by rw [hg]; exact (below_size (mvh HB.out)) : w.heap.size ≤ gb532)); clear HB; have HB := n0_; have BK532 := n1_; have GW532 := n2_; have GE532 := n3_; clear n0_ n1_ n2_ n3_; clear hb hbox hg; obtain ⟨hcz13_0, hcz13_1, hfz13_0, hfz13_1⟩ := cf2 BK532.out) | ((with_reducible refine gate_dst (N := 13) rfl ?_); refine Kd.R_lit (Kd.int .u8) _ 5 ?hg (N := 13) ?hd (xs := ([a1] : List Int)) (inner := [.int .u8 a1]) (ok := fun _ => True) (okp := fun _ => True) ?hr ?hp (fun _ hk => hk) trivial (Below.refl _ _) (Nat.le_refl _) (by simp) ?_; (case hd => rfl); (case hg => rfl); (case hr => first | (go_simp; done) | (go_simp; rfl)); (case hp => exact (Reps.one (show Kd.M (Kd.int .u8) _ _ _ a1 [.int .u8 a1] from rfl) (Reps.none _ _))); intro v534 w14 ho15 hb hg_ hnew_; clear hg_ hnew_; (first | rw [← Ny533.out] at ho15 | (simp only [Int.reduceToNat] at ho15; rw [← Ny533.out] at ho15)); have n0_ := aK (Kd.R_lower ho15 (below_size (mvh HB.out))); have n1_ := aK (kb BK532.out hb); have n2_ := aK (below_step (mvh HB.out) hb); clear BK532 HB; have HO535 := n0_; have BK532 := n1_; have HB := n2_; clear n0_ n1_ n2_; clear hb ho15; obtain ⟨Ao16, co16, eo16⟩ := Kd.R_slice HO535.out; subst eo16) | (go_at_call 67; (with_reducible refine (r3_over.calls k a0_0 a0_1 _ _ y533 false _ ?side1 ?side2 A3.out).mono ?_); (case side1 => exact mvC (Kd.R_reads' HO535.out).2.2); (case side2 => exact (Kd.R_reads' HO535.out).2.1); rintro e w17 ⟨rfl, hb⟩; have n0_ := aK (Kd.R_below (mvR HO535.out) hb); have n1_ := aK (kb BK532.out hb); have n2_ := aK (below_step (mvh HB.out) hb); clear HO535 BK532 HB; have HO535 := n0_; have BK532 := n1_; have HB := n2_; clear n0_ n1_ n2_; (try clear hb); obtain ⟨hcz18_0, hcz18_1, hfz18_0, hfz18_1⟩ := cf2 BK532.out) | (go_at_call 68; (with_reducible refine (r3_Two.calls k a0_0 a0_1 1 a1 t537 t538 t539 t540 t541 _ A11.out).mono ?_); rintro e w19 ⟨rfl, hb⟩; have n0_ := aK (Kd.R_below (mvR HO535.out) hb); have n1_ := aK (kb BK532.out hb); have n2_ := aK (below_step (mvh HB.out) hb); clear HO535 BK532 HB; have HO535 := n0_; have BK532 := n1_; have HB := n2_; clear n0_ n1_ n2_; (try clear hb)))
  go_ret2
  exact ⟨by first | rfl | (simp [errW_none, errW_some] <;> rfl) | (simp [*, errW_none, errW_some] <;> rfl), mvh HB.out⟩

end Go.Proofs.Ytjdkamhnbheofaa.P

-- squeezed
