-- written by mk.sh, a program of this session, over the kit's print
import Derived.Test.YtjdkamhnbheofaaGpPx0
import Derived.Test.YtjdkamhnbheofaaGpPx2
import Derived.Test.YtjdkamhnbheofaaGpPx3
import Derived.Test.YtjdkamhnbheofaaGpPx4
namespace Go.Proofs.Ytjdkamhnbheofaa.P
open Go.RowKit Go.Proofs.YtjdkamhnbheofaaW.PrintWords Go.Proofs.YtjdkamhnbheofaaW.PrintLast Go.Proofs.YtjdkamhnbheofaaW.PrintMore
attribute [local go_sem] max2_int min2_int max_two min_two max_three min_three max_four min_four   -- for this text's walks alone
set_option linter.unusedVariables false
set_option linter.unusedSimpArgs false

def r2_Primitive.j0 : Nat → Int → Int → Bool → Option (Bool × Int)
 | 0, _, _, _ => none
 | k + 1, x0, x4, x16 => if x16 = true then (some (false, 21)) else ((r2_Irreducible.f k x0).bind fun bt166 => (if bt166.1 = true then ((r2_Bit.f x0 0).bind fun t168 => (if t168 = 0 then (some (false, 0)) else ((r2_Order.f k x0).bind fun bt169 => (if 0 ≤ (IntKind.u64.wrap (x4)) then (some ((bt169.1 == (wrap64 ((shl .i64 1 (IntKind.u64.wrap (x4))) - 1))), 0)) else (none))))) else (some (false, 0))))
def r2_Primitive.f (k : Nat) (a0 : Int) : Option (Bool × Int) := (r2_Degree.f k a0).bind fun t165 => (if t165 < 1 then (r2_Primitive.j0 k a0 t165 true) else (r2_Primitive.j0 k a0 t165 (decide (t165 > 20))))
theorem r2_Primitive.mono_l : ∀ k, (∀ y0 y1 y2, LeO (r2_Primitive.j0 k y0 y1 y2) (r2_Primitive.j0 (k + 1) y0 y1 y2))
 | 0 => fun _ _ _ r h => by simp [r2_Primitive.j0] at h
 | k + 1 => by
  have ih0 := r2_Primitive.mono_l k
  ·intro y0 y1 y2
   unfold r2_Primitive.j0
   repeat' first
   | (with_reducible exact ih0 _ _ _)
   | (with_reducible exact r2_Degree.mono _ _)
   | (with_reducible exact r2_Irreducible.mono _ _)
   | (with_reducible exact r2_Order.mono _ _)
   | (with_reducible exact LeO.refl _)
   | (with_reducible exact LeO.none _)
   | (with_reducible refine LeO.ite ?_ ?_)
   | (with_reducible refine LeO.bind ?_ (fun _ => ?_))
theorem r2_Primitive.mono : ∀ a0 k, LeO (r2_Primitive.f k a0) (r2_Primitive.f (k + 1) a0) := by
 intro a0 k
 have ih0 := r2_Primitive.mono_l k
 unfold r2_Primitive.f
 repeat' first
   | (with_reducible exact ih0 _ _ _)
   | (with_reducible exact r2_Degree.mono _ _)
   | (with_reducible exact r2_Irreducible.mono _ _)
   | (with_reducible exact r2_Order.mono _ _)
   | (with_reducible exact LeO.refl _)
   | (with_reducible exact LeO.none _)
   | (with_reducible refine LeO.ite ?_ ?_)
   | (with_reducible refine LeO.bind ?_ (fun _ => ?_))
set_option maxHeartbeats 8000000 in
set_option maxRecDepth 100000 in
theorem r2_Primitive.calls (k : Nat) (a0 : Int) (r1 : Bool) (r2 : Int) (w : World) (h : r2_Primitive.f k a0 = some (r1, r2)) :
  Calls Try.prog 58 #[.int .u64 a0] w fun e w' => e = .returned (.tuple #[.bool r1, .int .i64 r2]) ∧ Below w.heap.size w w' := by
 have HB := aK (Below.refl w.heap.size w)
 have H : ((r2_Degree.f k a0).bind fun t165 => (if t165 < 1 then (r2_Primitive.j0 k a0 t165 true) else (r2_Primitive.j0 k a0 t165 (decide (t165 > 20))))) = some (r1, r2) := h
 clear h
 replace H := Option.bind_eq_some_iff.mp H
 obtain ⟨t165, A20, H⟩ := H
 try dsimp only at H
 have A2 := Aside0.mk A20
 clear A20
 have HC3 := Aside0.mk H
 clear H
 go_enter Try.func58, Try.ntmps58
 go_upto_region 2 with (first | (go_at_call 57; (with_reducible refine (r2_Degree.calls k a0 t165 _ A2.out).mono ?_); rintro e w' ⟨rfl, ⟨nd, rfl⟩⟩))
 (try simp only [Act.put, List.setIfInBounds_toArray, List.set_cons_zero, List.set_cons_succ])
 go_cut [16] (fun v16 wc => ∃ (kq : Nat) (x16_2 : Bool), v16 = .bool x16_2 ∧ Aside0 (r2_Primitive.j0 kq a0 t165 x16_2 = some (r1, r2)) ∧ Aside0 (kq ≤ k) ∧ Aside0 (Below w.heap.size w wc))
 case first =>
  have H := HC3.out
  clear HC3
  by_cases c4 : t165 < 1
  ·rw [if_pos c4] at H
   have c4b0 : decide (t165 < 1) = true := decide_eq_true c4
   clear c4
   (first | rw [c4b0] | (simp only [i64_w, i32_w]; rw [c4b0]) | rw [c4b1] | skip)
   have H' := Aside0.mk H
   clear H
   go_wp2
   go_meet
   case rel => exact ⟨_, (true), (by first | rfl | (simp; done) | (simp [*]; done) | (simp [wrap64]; done)), H', ⟨by first | omega | exact Nat.le_refl _⟩, ⟨mvh HB.out⟩⟩
  ·rw [if_neg c4] at H
   have c4b0 : decide (t165 < 1) = false := decide_eq_false c4
   clear c4
   (first | rw [c4b0] | (simp only [i64_w, i32_w]; rw [c4b0]) | rw [c4b1] | skip)
   have H' := Aside0.mk H
   clear H
   go_wp2
   go_meet
   case rel => exact ⟨_, (decide (t165 > 20)), (by first | rfl | (simp; done) | (simp [*]; done) | (simp [wrap64]; done)), H', ⟨by first | omega | exact Nat.le_refl _⟩, ⟨mvh HB.out⟩⟩
 case rest =>
  clear HC3
  (try clear p2); (try clear c4); (try clear c4b0); (try clear c4b1)
  obtain ⟨kq, x16_2, rfl, HA, HJ2, HB⟩ := hcut
  cases kq with
  | zero => exact absurd HA.out (by simp [r2_Primitive.j0])
  | succ kj2 =>
   have H := HA.out
   clear HA
   simp only [r2_Primitive.j0] at H
   by_cases c5 : x16_2 = true
   ·subst c5
    have H1 : (some (false, 21)) = some (r1, r2) := by rw [if_pos rfl] at H; exact H
    clear H
    have H := H1
    clear H1
    simp only [Option.some.injEq, Prod.mk.injEq] at H
    obtain ⟨rfl, rfl⟩ := H
    go_wp2
    go_ret2
    exact ⟨by first | rfl | (simp [errW_none, errW_some] <;> rfl) | (simp [*, errW_none, errW_some] <;> rfl), mvh HB.out⟩
   ·replace c5 := Bool.eq_false_iff.mpr c5
    subst c5
    have H1 : ((r2_Irreducible.f kj2 a0).bind fun bt166 => (if bt166.1 = true then ((r2_Bit.f a0 0).bind fun t168 => (if t168 = 0 then (some (false, 0)) else ((r2_Order.f kj2 a0).bind fun bt169 => (if 0 ≤ (IntKind.u64.wrap (t165)) then (some ((bt169.1 == (wrap64 ((shl .i64 1 (IntKind.u64.wrap (t165))) - 1))), 0)) else (none))))) else (some (false, 0)))) = some (r1, r2) := by rw [if_neg (show ¬ (false = true) by decide)] at H; exact H
    clear H
    have H := H1
    clear H1
    replace H := Option.bind_eq_some_iff.mp H
    obtain ⟨⟨t166, t167⟩, A60, H⟩ := H
    try dsimp only at H
    have A6 := Aside0.mk A60
    clear A60
    by_cases c7 : t166 = true
    rotate_left
    ·replace c7 := Bool.eq_false_iff.mpr c7
     subst c7
     have H1 : (some (false, 0)) = some (r1, r2) := by rw [if_neg (show ¬ (false = true) by decide)] at H; exact H
     clear H
     have H := H1
     clear H1
     simp only [Option.some.injEq, Prod.mk.injEq] at H
     obtain ⟨rfl, rfl⟩ := H
     go_wp2_with (first | (go_at_call 69; (with_reducible refine (r2_Irreducible.calls kj2 a0 false t167 _ A6.out).mono ?_); rintro e w16 ⟨rfl, hb⟩; have n0_ := aK (below_step (mvh HB.out) hb); clear HB; have HB := n0_; clear n0_; (try clear hb)))
     go_ret2
     exact ⟨by first | rfl | (simp [errW_none, errW_some] <;> rfl) | (simp [*, errW_none, errW_some] <;> rfl), mvh HB.out⟩

    subst c7
    have H1 : ((r2_Bit.f a0 0).bind fun t168 => (if t168 = 0 then (some (false, 0)) else ((r2_Order.f kj2 a0).bind fun bt169 => (if 0 ≤ (IntKind.u64.wrap (t165)) then (some ((bt169.1 == (wrap64 ((shl .i64 1 (IntKind.u64.wrap (t165))) - 1))), 0)) else (none))))) = some (r1, r2) := by rw [if_pos rfl] at H; exact H
    clear H
    have H := H1
    clear H1
    replace H := Option.bind_eq_some_iff.mp H
    obtain ⟨t168, A80, H⟩ := H
    try dsimp only at H
    have A8 := Aside0.mk A80
    clear A80
    by_cases c9 : t168 = 0
    ·rw [if_pos c9] at H
     have c9b0 : (t168 == 0) = true := beq_iff_eq.mpr c9
     have c9b1 : (t168 != 0) = false := bne_eq_false_iff_eq.mpr c9
     clear c9
     simp only [Option.some.injEq, Prod.mk.injEq] at H
     obtain ⟨rfl, rfl⟩ := H
     go_wp2_with (first | (go_at_call 69; (with_reducible refine (r2_Irreducible.calls kj2 a0 true t167 _ A6.out).mono ?_); rintro e w10 ⟨rfl, hb⟩; have n0_ := aK (below_step (mvh HB.out) hb); clear HB; have HB := n0_; clear n0_; (try clear hb)) | (go_at_call 70; (with_reducible refine (r2_Bit.calls a0 0 t168 _ A8.out).mono ?_); rintro e w' ⟨rfl, ⟨nd, rfl⟩⟩))
     go_ret2
     exact ⟨by first | rfl | (simp [errW_none, errW_some] <;> rfl) | (simp [*, errW_none, errW_some] <;> rfl), mvh HB.out⟩
    ·rw [if_neg c9] at H
     have c9b0 : (t168 == 0) = false := beq_eq_false_iff_ne.mpr c9
     have c9b1 : (t168 != 0) = true := bne_iff_ne.mpr c9
     replace H := Option.bind_eq_some_iff.mp H
     obtain ⟨⟨t169, t170⟩, A110, H⟩ := H
     try dsimp only at H
     have A11 := Aside0.mk A110
     clear A110
     obtain ⟨ji12, hji12⟩ : ∃ j_ : Int, (IntKind.u64.wrap (t165)) = j_ := ⟨_, rfl⟩
     first | rw [hji12] at H | simp only [hji12] at H
     (try rw [hji12] at A6)
     (try rw [hji12] at A8)
     (try rw [hji12] at A11)
     by_cases c13 : 0 ≤ (ji12)
     rotate_left
     ·rw [if_neg c13] at H
      exact absurd H (by simp)
     rw [if_pos c13] at H
     have c13b0 := eq_true c13
     have c13b1 : decide (0 ≤ (ji12)) = true := decide_eq_true c13
     clear c13
     obtain ⟨ji14, hji14⟩ : ∃ j_ : Int, (shl .i64 1 (ji12)) = j_ := ⟨_, rfl⟩
     first | rw [hji14] at H | simp only [hji14] at H
     (try rw [hji14] at A6)
     (try rw [hji14] at A8)
     (try rw [hji14] at A11)
     have hji14_ : (IntKind.i64.wrap (1 * 2 ^ min (ji12).toNat 64)) = ji14 := hji14
     have hji14z : (ji12) ≤ 64 → (IntKind.i64.wrap (1 * 2 ^ (ji12).toNat)) = ji14 := shl_small hji14
     have hji14u : (IntKind.i64.wrap (2 ^ min (ji12).toNat 64)) = ji14 := by have h_ := hji14_; rw [Int.one_mul] at h_; exact h_
     have hji14v : (ji12) ≤ 64 → (IntKind.i64.wrap (2 ^ (ji12).toNat)) = ji14 := fun hle_ => by have h_ := hji14z hle_; rw [Int.one_mul] at h_; exact h_
     have hji14y : (wrap64 (1 * 2 ^ min (ji12).toNat 64)) = ji14 := (i64_w _).symm.trans hji14_
     have hji14x : (ji12) ≤ 64 → (wrap64 (1 * 2 ^ (ji12).toNat)) = ji14 := fun h_ => (i64_w _).symm.trans (hji14z h_)
     simp only [Option.some.injEq, Prod.mk.injEq] at H
     obtain ⟨rfl, rfl⟩ := H
     go_wp2_with (first | (go_at_call 69; (with_reducible refine (r2_Irreducible.calls kj2 a0 true t167 _ A6.out).mono ?_); rintro e w15 ⟨rfl, hb⟩; have n0_ := aK (below_step (mvh HB.out) hb); clear HB; have HB := n0_; clear n0_; (try clear hb)) | (go_at_call 70; (with_reducible refine (r2_Bit.calls a0 0 t168 _ A8.out).mono ?_); rintro e w' ⟨rfl, ⟨nd, rfl⟩⟩) | (go_at_call 71; (with_reducible refine (r2_Order.calls kj2 a0 t169 t170 _ A11.out).mono ?_); rintro e w' ⟨rfl, ⟨nd, rfl⟩⟩))
     go_ret2
     exact ⟨by first | rfl | (simp [errW_none, errW_some] <;> rfl) | (simp only [← hji12, ← hji14]; first | rfl | (simp [errW_none, errW_some] <;> rfl)) | (simp [*, errW_none, errW_some] <;> rfl), mvh HB.out⟩
def r3_Check.j0 : Nat → Bool → Int → Int → Option (Int)
 | 0, _, _, _ => none
 | k + 1, x20, x172000, x172001 => if x20 = true then (some 320) else ((r2_Primitive.f k x172001).bind fun bt173 => (if bt173.1 = true then (some 0) else (some 320)))
def r3_Check.f (k : Nat) (a0_0 : Int) (a0_1 : Int) : Option (Int) := if a0_0 < 3 then (r3_Check.j0 k true a0_0 a0_1) else (if a0_0 > 8 then (r3_Check.j0 k true a0_0 a0_1) else ((r2_Degree.f k a0_1).bind fun t172 => (r3_Check.j0 k (t172 != a0_0) a0_0 a0_1)))
theorem r3_Check.mono_l : ∀ k, (∀ y0 y1 y2, LeO (r3_Check.j0 k y0 y1 y2) (r3_Check.j0 (k + 1) y0 y1 y2))
 | 0 => fun _ _ _ r h => by simp [r3_Check.j0] at h
 | k + 1 => by
  have ih0 := r3_Check.mono_l k
  ·intro y0 y1 y2
   unfold r3_Check.j0
   repeat' first
   | (with_reducible exact ih0 _ _ _)
   | (with_reducible exact r2_Degree.mono _ _)
   | (with_reducible exact r2_Primitive.mono _ _)
   | (with_reducible exact LeO.refl _)
   | (with_reducible exact LeO.none _)
   | (with_reducible refine LeO.ite ?_ ?_)
   | (with_reducible refine LeO.bind ?_ (fun _ => ?_))
theorem r3_Check.mono : ∀ a0 a1 k, LeO (r3_Check.f k a0 a1) (r3_Check.f (k + 1) a0 a1) := by
 intro a0 a1 k
 have ih0 := r3_Check.mono_l k
 unfold r3_Check.f
 repeat' first
   | (with_reducible exact ih0 _ _ _)
   | (with_reducible exact r2_Degree.mono _ _)
   | (with_reducible exact r2_Primitive.mono _ _)
   | (with_reducible exact LeO.refl _)
   | (with_reducible exact LeO.none _)
   | (with_reducible refine LeO.ite ?_ ?_)
   | (with_reducible refine LeO.bind ?_ (fun _ => ?_))
set_option maxHeartbeats 8000000 in
set_option maxRecDepth 100000 in
theorem r3_Check.calls (k : Nat) (a0_0 : Int) (a0_1 : Int) (r : Int) (w : World) (h : r3_Check.f k a0_0 a0_1 = some r) :
  Calls Try.prog 36 #[.agg #[.int .i64 a0_0, .int .u64 a0_1]] w fun e w' => e = .returned (.int .i64 r) ∧ Below w.heap.size w w' := by
 have hu24 := Try.underlying24
 have HB := aK (Below.refl w.heap.size w)
 have H : (if a0_0 < 3 then (r3_Check.j0 k true a0_0 a0_1) else (if a0_0 > 8 then (r3_Check.j0 k true a0_0 a0_1) else ((r2_Degree.f k a0_1).bind fun t172 => (r3_Check.j0 k (t172 != a0_0) a0_0 a0_1)))) = some r := h
 clear h
 have HC2 := Aside0.mk H
 clear H
 go_enter Try.func36, Try.ntmps36
 go_upto_region 1 with (first | ((with_reducible refine gate_dst (N := 1) rfl ?_); refine box_event ?hg (N := 1) ?hd (cs := #[.int .i64 a0_0, .int .u64 a0_1]) (t := 24) ?hr ?_; (case hd => rfl); (case hg => rfl); (case hr => first | (go_simp; done) | (go_simp; rfl)); intro gb171 hg w3 hbox hb; have n0_ := aK (below_step (mvh HB.out) hb); have n1_ := aK (hbox); have n2_ := aK ((by rw [hg]; exact (below_size (mvh HB.out)) : w.heap.size ≤ gb171)); have n3_ := aK ((by rw [hg]; exact (below_size (mvh HB.out)) : w.heap.size ≤ gb171)); clear HB; have HB := n0_; have BK171 := n1_; have GW171 := n2_; have GE171 := n3_; clear n0_ n1_ n2_ n3_; clear hb hbox hg))
 repeat (go_quiet (first | ((with_reducible refine gate_dst (N := 1) rfl ?_); refine box_event ?hg (N := 1) ?hd (cs := #[.int .i64 a0_0, .int .u64 a0_1]) (t := 24) ?hr ?_; (case hd => rfl); (case hg => rfl); (case hr => first | (go_simp; done) | (go_simp; rfl)); intro gb171 hg w3 hbox hb; have n0_ := aK (below_step (mvh HB.out) hb); have n1_ := aK (hbox); have n2_ := aK ((by rw [hg]; exact (below_size (mvh HB.out)) : w.heap.size ≤ gb171)); have n3_ := aK ((by rw [hg]; exact (below_size (mvh HB.out)) : w.heap.size ≤ gb171)); clear HB; have HB := n0_; have BK171 := n1_; have GW171 := n2_; have GE171 := n3_; clear n0_ n1_ n2_ n3_; clear hb hbox hg)); go_upto_region 1 with (first | ((with_reducible refine gate_dst (N := 1) rfl ?_); refine box_event ?hg (N := 1) ?hd (cs := #[.int .i64 a0_0, .int .u64 a0_1]) (t := 24) ?hr ?_; (case hd => rfl); (case hg => rfl); (case hr => first | (go_simp; done) | (go_simp; rfl)); intro gb171 hg w3 hbox hb; have n0_ := aK (below_step (mvh HB.out) hb); have n1_ := aK (hbox); have n2_ := aK ((by rw [hg]; exact (below_size (mvh HB.out)) : w.heap.size ≤ gb171)); have n3_ := aK ((by rw [hg]; exact (below_size (mvh HB.out)) : w.heap.size ≤ gb171)); clear HB; have HB := n0_; have BK171 := n1_; have GW171 := n2_; have GE171 := n3_; clear n0_ n1_ n2_ n3_; clear hb hbox hg)))
 (try simp only [Act.put, List.setIfInBounds_toArray, List.set_cons_zero, List.set_cons_succ])
 go_cut [20] (fun v20 wc => ∃ (kq : Nat) (x20_1 : Bool), v20 = .bool x20_1 ∧ Aside0 (r3_Check.j0 kq x20_1 a0_0 a0_1 = some r) ∧ Aside0 (kq ≤ k) ∧ Aside0 (wc.heap[gb171]? = some (.cells #[.int .i64 a0_0, .int .u64 a0_1] 24 (0, 0))) ∧ Aside0 (Below w.heap.size w wc))
 case first =>
  have H := HC2.out
  clear HC2
  by_cases c4 : a0_0 < 3
  ·rw [if_pos c4] at H
   have c4b0 : decide (a0_0 < 3) = true := decide_eq_true c4
   clear c4
   (first | rw [c4b0] | (simp only [i64_w, i32_w]; rw [c4b0]) | rw [c4b1] | skip)
   have H' := Aside0.mk H
   clear H
   obtain ⟨hcz5_0, hcz5_1, hfz5_0, hfz5_1⟩ := cf2 BK171.out
   go_wp2
   repeat (go_quiet (fail); try go_wp2)
   go_meet
   case rel => exact ⟨_, (true), (by first | rfl | (simp; done) | (simp [*]; done) | (simp [wrap64]; done)), H', ⟨by first | omega | exact Nat.le_refl _⟩, ⟨mvb BK171.out⟩, ⟨mvh HB.out⟩⟩
  ·rw [if_neg c4] at H
   have c4b0 : decide (a0_0 < 3) = false := decide_eq_false c4
   clear c4
   (first | rw [c4b0] | (simp only [i64_w, i32_w]; rw [c4b0]) | rw [c4b1] | skip)
   by_cases c6 : a0_0 > 8
   ·rw [if_pos c6] at H
    have c6b0 : decide (8 < a0_0) = true := decide_eq_true c6
    clear c6
    have H' := Aside0.mk H
    clear H
    obtain ⟨hcz7_0, hcz7_1, hfz7_0, hfz7_1⟩ := cf2 BK171.out
    go_wp2
    repeat (go_quiet (fail); try go_wp2)
    go_meet
    case rel => exact ⟨_, (true), (by first | rfl | (simp; done) | (simp [*]; done) | (simp [wrap64]; done)), H', ⟨by first | omega | exact Nat.le_refl _⟩, ⟨mvb BK171.out⟩, ⟨mvh HB.out⟩⟩
   ·rw [if_neg c6] at H
    have c6b0 : decide (8 < a0_0) = false := decide_eq_false c6
    clear c6
    replace H := Option.bind_eq_some_iff.mp H
    obtain ⟨t172, A80, H⟩ := H
    try dsimp only at H
    have A8 := Aside0.mk A80
    clear A80
    have H' := Aside0.mk H
    clear H
    obtain ⟨hcz9_0, hcz9_1, hfz9_0, hfz9_1⟩ := cf2 BK171.out
    go_wp2_with (first | (go_at_call 57; (with_reducible refine (r2_Degree.calls k a0_1 t172 _ A8.out).mono ?_); rintro e w' ⟨rfl, ⟨nd, rfl⟩⟩; (try first | exact ⟨rfl, _, World.drewN_drewN _ _ _⟩ | exact ⟨rfl, _, Eq.trans (World.drewN_drewN _ _ _) (congrArg (World.drewN _) (Nat.add_assoc _ _ _))⟩)))
    repeat (go_quiet (first | (go_at_call 57; (with_reducible refine (r2_Degree.calls k a0_1 t172 _ A8.out).mono ?_); rintro e w' ⟨rfl, ⟨nd, rfl⟩⟩; (try first | exact ⟨rfl, _, World.drewN_drewN _ _ _⟩ | exact ⟨rfl, _, Eq.trans (World.drewN_drewN _ _ _) (congrArg (World.drewN _) (Nat.add_assoc _ _ _))⟩))); try go_wp2_with (first | (go_at_call 57; (with_reducible refine (r2_Degree.calls k a0_1 t172 _ A8.out).mono ?_); rintro e w' ⟨rfl, ⟨nd, rfl⟩⟩; (try first | exact ⟨rfl, _, World.drewN_drewN _ _ _⟩ | exact ⟨rfl, _, Eq.trans (World.drewN_drewN _ _ _) (congrArg (World.drewN _) (Nat.add_assoc _ _ _))⟩))))
    go_meet
    case rel => exact ⟨_, ((t172 != a0_0)), (by first | rfl | (simp; done) | (simp [*]; done) | (simp [wrap64]; done)), H', ⟨by first | omega | exact Nat.le_refl _⟩, ⟨mvb BK171.out⟩, ⟨mvh HB.out⟩⟩
 case rest =>
  clear HC2
  (try clear p2); (try clear c3); (try clear c4); (try clear c4b0); (try clear c4b1); (try clear c6); (try clear c6b0); (try clear p6); (try clear hcz5_0); (try clear hcz5_1); (try clear hcz7_0); (try clear hcz7_1); (try clear hcz9_0); (try clear hcz9_1); (try clear hfz5_0); (try clear hfz5_1); (try clear hfz7_0)
  (try clear hfz7_1); (try clear hfz9_0); (try clear hfz9_1)
  obtain ⟨kq, x20_1, rfl, HA, HJ1, BK171, HB⟩ := hcut
  cases kq with
  | zero => exact absurd HA.out (by simp [r3_Check.j0])
  | succ kj1 =>
   have H := HA.out
   clear HA
   simp only [r3_Check.j0] at H
   by_cases c10 : x20_1 = true
   ·subst c10
    have H1 : (some 320) = some r := by rw [if_pos rfl] at H; exact H
    clear H
    have H := H1
    clear H1
    obtain rfl := Option.some.inj H
    go_wp2
    repeat (go_quiet (fail); try go_wp2)
    go_ret
    exact ⟨by first | rfl | (simp [errW_none, errW_some] <;> rfl) | (simp [*, errW_none, errW_some] <;> rfl), mvh HB.out⟩
   ·replace c10 := Bool.eq_false_iff.mpr c10
    subst c10
    have H1 : ((r2_Primitive.f kj1 a0_1).bind fun bt173 => (if bt173.1 = true then (some 0) else (some 320))) = some r := by rw [if_neg (show ¬ (false = true) by decide)] at H; exact H
    clear H
    have H := H1
    clear H1
    replace H := Option.bind_eq_some_iff.mp H
    obtain ⟨⟨t173, t174⟩, A110, H⟩ := H
    try dsimp only at H
    have A11 := Aside0.mk A110
    clear A110
    by_cases c12 : t173 = true
    ·subst c12
     have H1 : (some 0) = some r := by rw [if_pos rfl] at H; exact H
     clear H
     have H := H1
     clear H1
     obtain rfl := Option.some.inj H
     obtain ⟨hcz13_0, hcz13_1, hfz13_0, hfz13_1⟩ := cf2 BK171.out
     go_wp2_with (first | (go_at_call 58; (with_reducible refine (r2_Primitive.calls kj1 a0_1 true t174 _ A11.out).mono ?_); rintro e w14 ⟨rfl, hb⟩; have n0_ := aK (kb BK171.out hb); have n1_ := aK (below_step (mvh HB.out) hb); clear BK171 HB; have BK171 := n0_; have HB := n1_; clear n0_ n1_; (try clear hb)))
     repeat (go_quiet (first | (go_at_call 58; (with_reducible refine (r2_Primitive.calls kj1 a0_1 true t174 _ A11.out).mono ?_); rintro e w14 ⟨rfl, hb⟩; have n0_ := aK (kb BK171.out hb); have n1_ := aK (below_step (mvh HB.out) hb); clear BK171 HB; have BK171 := n0_; have HB := n1_; clear n0_ n1_; (try clear hb))); try go_wp2_with (first | (go_at_call 58; (with_reducible refine (r2_Primitive.calls kj1 a0_1 true t174 _ A11.out).mono ?_); rintro e w14 ⟨rfl, hb⟩; have n0_ := aK (kb BK171.out hb); have n1_ := aK (below_step (mvh HB.out) hb); clear BK171 HB; have BK171 := n0_; have HB := n1_; clear n0_ n1_; (try clear hb))))
     go_ret
     exact ⟨by first | rfl | (simp [errW_none, errW_some] <;> rfl) | (simp [*, errW_none, errW_some] <;> rfl), mvh HB.out⟩
    ·replace c12 := Bool.eq_false_iff.mpr c12
     subst c12
     have H1 : (some 320) = some r := by rw [if_neg (show ¬ (false = true) by decide)] at H; exact H
     clear H
     have H := H1
     clear H1
     obtain rfl := Option.some.inj H
     obtain ⟨hcz15_0, hcz15_1, hfz15_0, hfz15_1⟩ := cf2 BK171.out
     go_wp2_with (first | (go_at_call 58; (with_reducible refine (r2_Primitive.calls kj1 a0_1 false t174 _ A11.out).mono ?_); rintro e w16 ⟨rfl, hb⟩; have n0_ := aK (kb BK171.out hb); have n1_ := aK (below_step (mvh HB.out) hb); clear BK171 HB; have BK171 := n0_; have HB := n1_; clear n0_ n1_; (try clear hb)))
     repeat (go_quiet (first | (go_at_call 58; (with_reducible refine (r2_Primitive.calls kj1 a0_1 false t174 _ A11.out).mono ?_); rintro e w16 ⟨rfl, hb⟩; have n0_ := aK (kb BK171.out hb); have n1_ := aK (below_step (mvh HB.out) hb); clear BK171 HB; have BK171 := n0_; have HB := n1_; clear n0_ n1_; (try clear hb))); try go_wp2_with (first | (go_at_call 58; (with_reducible refine (r2_Primitive.calls kj1 a0_1 false t174 _ A11.out).mono ?_); rintro e w16 ⟨rfl, hb⟩; have n0_ := aK (kb BK171.out hb); have n1_ := aK (below_step (mvh HB.out) hb); clear BK171 HB; have BK171 := n0_; have HB := n1_; clear n0_ n1_; (try clear hb))))
     go_ret
     exact ⟨by first | rfl | (simp [errW_none, errW_some] <;> rfl) | (simp [*, errW_none, errW_some] <;> rfl), mvh HB.out⟩

def l3_same.f (l0 : List Int) (l1 : List Int) : Option (Bool) := some ((strOfNums l0).toList == (strOfNums l1).toList)
set_option maxHeartbeats 8000000 in
set_option maxRecDepth 100000 in
theorem l3_same.calls (A0 : Option Addr) (c0 : Nat) (l0 : List Int) (A1 : Option Addr) (c1 : Nat) (l1 : List Int) (r : Bool) (w : World) (hr0 : Kd.C (Kd.int .u8) w A0 l0.length l0) (hc0 : l0.length ≤ c0) (hr1 : Kd.C (Kd.int .u8) w A1 l1.length l1) (hc1 : l1.length ≤ c1) (h : l3_same.f l0 l1 = some r) :
  Calls Try.prog 12 #[.slice A0 l0.length c0, .slice A1 l1.length c1] w fun e w' => e = .returned (.bool r) ∧ Drawn0 w w' := by
 have HR0 := Aside0.mk hr0
 have HC0 := Aside0.mk hc0
 clear hr0 hc0
 have HR1 := Aside0.mk hr1
 have HC1 := Aside0.mk hc1
 clear hr1 hc1
 have H : (some ((strOfNums l0).toList == (strOfNums l1).toList)) = some r := h
 clear h
 obtain rfl := Option.some.inj H
 have hcv3 := Kd.C_string (P := Try.prog) (A := A0) (c := c0) Try.underlying25 Try.underlying5 Try.underlying9 HR0.out
 have hcv4 := fun n_ => Kd.C_string (P := Try.prog) (A := A0) (c := c0) Try.underlying25 Try.underlying5 Try.underlying9 (Kd.C_drewN HR0.out n_)
 have hcv5 := Kd.C_string (P := Try.prog) (A := A1) (c := c1) Try.underlying25 Try.underlying5 Try.underlying9 HR1.out
 have hcv6 := fun n_ => Kd.C_string (P := Try.prog) (A := A1) (c := c1) Try.underlying25 Try.underlying5 Try.underlying9 (Kd.C_drewN HR1.out n_)
 go_enter Try.func12, Try.ntmps12
 go_wp2
 go_ret
 exact ⟨by first | rfl | (simp; done) | (simp [*]; done) | (simp [wrap64]; done), by repeat (first | exact Drawn0.refl _ | apply Drawn0.step)⟩

def gT_none.f (t : GTab) : Option Bool := some (decide (t.size = 0))
set_option maxHeartbeats 8000000 in
set_option maxRecDepth 100000 in
theorem gT_none.calls (A0 : Option Addr) (a0 : GTab) (r : Bool) (w : World) (hr0 : gal_OK w A0 a0) (h : gT_none.f a0 = some r) :
  Calls Try.prog 64 #[.pointer A0] w fun e w' => e = .returned (.bool r) ∧ Drawn0 w w' := by
 unfold gT_none.f at h
 obtain rfl := Option.some.inj h
 clear h
 rcases hr0 with ⟨h1, h2⟩ | ⟨_, b, p, q, rfl, h2⟩
 ·rw [decide_eq_true h1]
  rcases h2 with ⟨_, rfl⟩ | ⟨_, b, cs, rfl, h3, h4⟩
  ·go_enter Try.func64, Try.ntmps64
   go_wp2
   go_ret
   exact ⟨rfl, Drawn0.refl _⟩
  ·have hc : w.cell? ⟨b, 0, none⟩ = some (.int .i64 0) := (blk_cell h3 0).trans h4
   clear h3 h4 h1
   go_enter Try.func64, Try.ntmps64
   go_wp2
   go_ret
   exact ⟨rfl, Drawn0.refl _⟩
 ·have h3 : a0.size ≠ 0 := by have := h2.2.1; omega
  rw [decide_eq_false h3]
  have hc := gal_At_size h2
  have h4 : ((a0.size : Int) == 0) = false := beq_eq_false_iff_ne.mpr (by omega)
  clear h2
  go_enter Try.func64, Try.ntmps64
  go_wp2
  go_ret
  exact ⟨rfl, Drawn0.refl _⟩

def gT_check.l0 : Nat → GTab → List Int → Int → Int → Option (Int)
 | 0, _, _, _, _ => none
 | k + 1, x0, x9, x10, x11 => if x11 < x10 then (if 0 ≤ x11 then (if x11 < (x9.length : Int) then (if 0 < x0.size then (if (wrap64 (rd x9 x11)) ≥ (x0.size : Int) then (some 11) else (gT_check.l0 k x0 x9 x10 (wrap64 (x11 + 1)))) else (none)) else (none)) else (none)) else (some 0)
def gT_check.f (k : Nat) (a0 : GTab) (l1 : List Int) : Option (Int) := (gT_none.f a0).bind fun t175 => (if t175 = true then (some 1) else (gT_check.l0 k a0 l1 (l1.length : Int) 0))
theorem gT_check.mono_l : ∀ k, (∀ y0 y1 y2 y3, LeO (gT_check.l0 k y0 y1 y2 y3) (gT_check.l0 (k + 1) y0 y1 y2 y3))
 | 0 => fun _ _ _ _ r h => by simp [gT_check.l0] at h
 | k + 1 => by
  have ih0 := gT_check.mono_l k
  ·intro y0 y1 y2 y3
   unfold gT_check.l0
   repeat' first
   | (with_reducible exact ih0 _ _ _ _)
   | (with_reducible exact LeO.refl _)
   | (with_reducible exact LeO.none _)
   | (with_reducible refine LeO.ite ?_ ?_)
   | (with_reducible refine LeO.bind ?_ (fun _ => ?_))
theorem gT_check.mono : ∀ a0 a1 k, LeO (gT_check.f k a0 a1) (gT_check.f (k + 1) a0 a1) := by
 intro a0 a1 k
 have ih0 := gT_check.mono_l k
 unfold gT_check.f
 repeat' first
   | (with_reducible exact ih0 _ _ _ _)
   | (with_reducible exact LeO.refl _)
   | (with_reducible exact LeO.none _)
   | (with_reducible refine LeO.ite ?_ ?_)
   | (with_reducible refine LeO.bind ?_ (fun _ => ?_))
set_option maxHeartbeats 8000000 in
set_option maxRecDepth 100000 in
theorem gT_check.calls (k : Nat) (A0 : Option Addr) (a0 : GTab) (A1 : Option Addr) (c1 : Nat) (l1 : List Int) (r : Int) (w : World) (hr0 : gal_OK w A0 a0) (hr1 : Kd.C (Kd.int .u8) w A1 l1.length l1) (hc1 : l1.length ≤ c1) (h : gT_check.f k a0 l1 = some r) :
  Calls Try.prog 65 #[.pointer A0, .slice A1 l1.length c1] w fun e w' => e = .returned (.int .i64 r) ∧ Drawn0 w w' := by
 have HR0 := Aside0.mk hr0
 clear hr0
 have HR1 := Aside0.mk hr1
 have HC1 := Aside0.mk hc1
 clear hr1 hc1
 have H : ((gT_none.f a0).bind fun t175 => (if t175 = true then (some 1) else (gT_check.l0 k a0 l1 (l1.length : Int) 0))) = some r := h
 clear h
 replace H := Option.bind_eq_some_iff.mp H
 obtain ⟨t175, A30, H⟩ := H
 try dsimp only at H
 have A3 := Aside0.mk A30
 clear A30
 by_cases c4 : t175 = true
 ·subst c4
  have H1 : (some 1) = some r := by rw [if_pos rfl] at H; exact H
  clear H
  have H := H1
  clear H1
  obtain rfl := Option.some.inj H
  go_enter Try.func65, Try.ntmps65
  go_wp2_with (first | (go_at_call 64; (with_reducible refine (gT_none.calls _ a0 true _ ?side1 A3.out).mono ?_); (case side1 => exact HR0.out); rintro e w' ⟨rfl, ⟨nd, rfl⟩⟩))
  go_ret
  exact ⟨by first | rfl | (simp; done) | (simp [*]; done) | (simp [wrap64]; done), by repeat (first | exact Drawn0.refl _ | apply Drawn0.step)⟩
 ·replace c4 := Bool.eq_false_iff.mpr c4
  subst c4
  have H1 : (gT_check.l0 k a0 l1 (l1.length : Int) 0) = some r := by rw [if_neg (show ¬ (false = true) by decide)] at H; exact H
  clear H
  have H := H1
  clear H1
  have H' := Aside0.mk H
  clear H
  go_enter Try.func65, Try.ntmps65
  go_wp2_with (first | (go_at_call 64; (with_reducible refine (gT_none.calls _ a0 false _ ?side1 A3.out).mono ?_); (case side1 => exact HR0.out); rintro e w' ⟨rfl, ⟨nd, rfl⟩⟩))
  go_loopg [11] k (fun kq v11 w' => ∃ (x11_1 : Int), v11 = .int .i64 x11_1 ∧ Aside0 (gT_check.l0 kq a0 l1 (l1.length : Int) x11_1 = some r) ∧ Aside0 (kq ≤ k) ∧ Drawn0 w w')
  case atStart => exact ⟨(0), (by first | rfl | (simp; done) | (simp [*]; done) | (simp [wrap64]; done)), H', ⟨Nat.le_refl _⟩, by repeat (first | exact Drawn0.refl _ | apply Drawn0.step)⟩
  case round =>
   clear H'
   (try clear c1); (try clear p2); (try clear c4)
   obtain ⟨x11_1, rfl, HA, HK1, ⟨m1, rfl⟩⟩ := hrel
   cases gk with
   | zero => exact absurd HA.out (by simp [gT_check.l0])
   | succ k1 =>
    have H := HA.out
    clear HA
    simp only [gT_check.l0] at H
    by_cases c5 : x11_1 < (l1.length : Int)
    rotate_left
    ·rw [if_neg c5] at H
     have c5b0 : decide (x11_1 < (l1.length : Int)) = false := decide_eq_false c5
     clear c5
     obtain rfl := Option.some.inj H
     go_wp2
     go_ret
     exact ⟨by first | rfl | (simp; done) | (simp [*]; done) | (simp [wrap64]; done), by repeat (first | exact Drawn0.refl _ | apply Drawn0.step)⟩

    rw [if_pos c5] at H
    have c5b0 : decide (x11_1 < (l1.length : Int)) = true := decide_eq_true c5
    clear c5
    by_cases c6 : 0 ≤ x11_1
    rotate_left
    ·rw [if_neg c6] at H
     exact absurd H (by simp)
    rw [if_pos c6] at H
    have c6b0 : decide (0 ≤ x11_1) = true := decide_eq_true c6
    clear c6
    by_cases c7 : x11_1 < (l1.length : Int)
    rotate_left
    ·rw [if_neg c7] at H
     exact absurd H (by simp)
    rw [if_pos c7] at H
    have c7b0 : decide (x11_1 < (l1.length : Int)) = true := decide_eq_true c7
    clear c7
    by_cases c8 : 0 < a0.size
    rotate_left
    ·rw [if_neg c8] at H
     exact absurd H (by simp)
    rw [if_pos c8] at H
    obtain ⟨b_, p_, q_, rfl, hT_⟩ := gal_pos HR0.out c8
    have HT0 := Aside0.mk hT_
    clear hT_ c8
    by_cases c10 : (wrap64 (rd l1 x11_1)) ≥ (a0.size : Int)
    ·rw [if_pos c10] at H
     have c10b0 : decide ((a0.size : Int) ≤ (wrap64 (rd l1 x11_1))) = true := decide_eq_true c10
     clear c10
     obtain rfl := Option.some.inj H
     have p176 : 0 ≤ (x11_1 : Int) := of_decide_eq_true (by first | (with_reducible assumption) | assumption)
     have q176 : x11_1 < (l1.length : Int) := of_decide_eq_true (by first | (with_reducible assumption) | assumption)
     obtain ⟨ad176, e176, hx176_0⟩ := Kd.at_int HR1.out x11_1 p176 q176
     cases e176
     replace p176 := eq_true p176
     replace q176 := eq_true q176
     have ho9 := gal_At_size HT0.out
     have hx9 := ho9
     go_wp2
     go_ret
     exact ⟨by first | rfl | (simp; done) | (simp [*]; done) | (simp [wrap64]; done), by repeat (first | exact Drawn0.refl _ | apply Drawn0.step)⟩
    ·rw [if_neg c10] at H
     have c10b0 : decide ((a0.size : Int) ≤ (wrap64 (rd l1 x11_1))) = false := decide_eq_false c10
     clear c10
     have H' := Aside0.mk H
     clear H
     have p176 : 0 ≤ (x11_1 : Int) := of_decide_eq_true (by first | (with_reducible assumption) | assumption)
     have q176 : x11_1 < (l1.length : Int) := of_decide_eq_true (by first | (with_reducible assumption) | assumption)
     obtain ⟨ad176, e176, hx176_0⟩ := Kd.at_int HR1.out x11_1 p176 q176
     cases e176
     replace p176 := eq_true p176
     replace q176 := eq_true q176
     have ho9 := gal_At_size HT0.out
     have hx9 := ho9
     go_wp2
     go_roundg k1
     case measure => have := HK1.out; omega
     case rel => exact ⟨(wrap64 (x11_1 + 1)), (by first | rfl | (simp; done) | (simp [*]; done) | (simp [wrap64]; done)), H', ⟨by have := HK1.out; omega⟩, by repeat (first | exact Drawn0.refl _ | apply Drawn0.step)⟩
mutual
def gT_lists.l0 : Nat → GTab → List (List Int) → List (List Int) → Int → Int → Option (Int)
 | 0, _, _, _, _, _ => none
 | k + 1, x0, x1, x12, x13, x14 => if x14 < x13 then (if 0 ≤ x14 then (if x14 < (x12.length : Int) then (if ((rd_L4 x12 x14).length : Int) > 1024 then (some 6) else (gT_lists.l0 k x0 x1 x12 x13 (wrap64 (x14 + 1)))) else (none)) else (none)) else (gT_lists.l1 k x0 x1 (x1.length : Int) 0)
def gT_lists.l1 : Nat → GTab → List (List Int) → Int → Int → Option (Int)
 | 0, _, _, _, _ => none
 | k + 1, x0, x22, x23, x24 => if x24 < x23 then (if 0 ≤ x24 then (if x24 < (x22.length : Int) then ((gT_check.f k x0 (rd_L4 x22 x24)).bind fun t180 => (if t180 = 0 then (gT_lists.l1 k x0 x22 x23 (wrap64 (x24 + 1))) else (some t180))) else (none)) else (none)) else (some 0)
end
def gT_lists.f (k : Nat) (a0 : GTab) (l1 : List (List Int)) : Option (Int) := (gT_none.f a0).bind fun t177 => (if t177 = true then (some 1) else (gT_lists.l0 k a0 l1 l1 (l1.length : Int) 0))
theorem gT_lists.mono_l : ∀ k, (∀ y0 y1 y2 y3 y4, LeO (gT_lists.l0 k y0 y1 y2 y3 y4) (gT_lists.l0 (k + 1) y0 y1 y2 y3 y4)) ∧ (∀ y0 y1 y2 y3, LeO (gT_lists.l1 k y0 y1 y2 y3) (gT_lists.l1 (k + 1) y0 y1 y2 y3))
 | 0 => ⟨fun _ _ _ _ _ r h => by simp [gT_lists.l0] at h, fun _ _ _ _ r h => by simp [gT_lists.l1] at h⟩
 | k + 1 => by
  obtain ⟨ih0, ih1⟩ := gT_lists.mono_l k
  refine ⟨?_, ?_⟩
  ·intro y0 y1 y2 y3 y4
   unfold gT_lists.l0
   repeat' first
   | (with_reducible exact ih0 _ _ _ _ _)
   | (with_reducible exact ih1 _ _ _ _)
   | (with_reducible exact gT_check.mono _ _ _)
   | (with_reducible exact LeO.refl _)
   | (with_reducible exact LeO.none _)
   | (with_reducible refine LeO.ite ?_ ?_)
   | (with_reducible refine LeO.bind ?_ (fun _ => ?_))
  ·intro y0 y1 y2 y3
   unfold gT_lists.l1
   repeat' first
   | (with_reducible exact ih0 _ _ _ _ _)
   | (with_reducible exact ih1 _ _ _ _)
   | (with_reducible exact gT_check.mono _ _ _)
   | (with_reducible exact LeO.refl _)
   | (with_reducible exact LeO.none _)
   | (with_reducible refine LeO.ite ?_ ?_)
   | (with_reducible refine LeO.bind ?_ (fun _ => ?_))
theorem gT_lists.mono : ∀ a0 a1 k, LeO (gT_lists.f k a0 a1) (gT_lists.f (k + 1) a0 a1) := by
 intro a0 a1 k
 obtain ⟨ih0, ih1⟩ := gT_lists.mono_l k
 unfold gT_lists.f
 repeat' first
   | (with_reducible exact ih0 _ _ _ _ _)
   | (with_reducible exact ih1 _ _ _ _)
   | (with_reducible exact gT_check.mono _ _ _)
   | (with_reducible exact LeO.refl _)
   | (with_reducible exact LeO.none _)
   | (with_reducible refine LeO.ite ?_ ?_)
   | (with_reducible refine LeO.bind ?_ (fun _ => ?_))
set_option maxHeartbeats 8000000 in
set_option maxRecDepth 100000 in
theorem gT_lists.calls (k : Nat) (A0 : Option Addr) (a0 : GTab) (A1 : Option Addr) (c1 : Nat) (l1 : List (List Int)) (r : Int) (w : World) (hr0 : gal_OK w A0 a0) (hr1 : Kd.C (Kd.slice 5 (Kd.int .u8)) w A1 l1.length l1) (hc1 : l1.length ≤ c1) (h : gT_lists.f k a0 l1 = some r) :
  Calls Try.prog 39 #[.pointer A0, .slice A1 l1.length c1] w fun e w' => e = .returned (.int .i64 r) ∧ Drawn0 w w' := by
 have HR0 := Aside0.mk hr0
 clear hr0
 have HR1 := Aside0.mk hr1
 have HC1 := Aside0.mk hc1
 clear hr1 hc1
 have H : ((gT_none.f a0).bind fun t177 => (if t177 = true then (some 1) else (gT_lists.l0 k a0 l1 l1 (l1.length : Int) 0))) = some r := h
 clear h
 replace H := Option.bind_eq_some_iff.mp H
 obtain ⟨t177, A30, H⟩ := H
 try dsimp only at H
 have A3 := Aside0.mk A30
 clear A30
 by_cases c4 : t177 = true
 ·subst c4
  have H1 : (some 1) = some r := by rw [if_pos rfl] at H; exact H
  clear H
  have H := H1
  clear H1
  obtain rfl := Option.some.inj H
  go_enter Try.func39, Try.ntmps39
  go_wp2_with (first | (go_at_call 64; (with_reducible refine (gT_none.calls _ a0 true _ ?side1 A3.out).mono ?_); (case side1 => exact HR0.out); rintro e w' ⟨rfl, ⟨nd, rfl⟩⟩))
  go_ret
  exact ⟨by first | rfl | (simp; done) | (simp [*]; done) | (simp [wrap64]; done), by repeat (first | exact Drawn0.refl _ | apply Drawn0.step)⟩
 ·replace c4 := Bool.eq_false_iff.mpr c4
  subst c4
  have H1 : (gT_lists.l0 k a0 l1 l1 (l1.length : Int) 0) = some r := by rw [if_neg (show ¬ (false = true) by decide)] at H; exact H
  clear H
  have H := H1
  clear H1
  have H' := Aside0.mk H
  clear H
  go_enter Try.func39, Try.ntmps39
  go_wp2_with (first | (go_at_call 64; (with_reducible refine (gT_none.calls _ a0 false _ ?side1 A3.out).mono ?_); (case side1 => exact HR0.out); rintro e w' ⟨rfl, ⟨nd, rfl⟩⟩))
  go_loopg [14] k (fun kq v14 w' => ∃ (x14_1 : Int), v14 = .int .i64 x14_1 ∧ Aside0 (gT_lists.l0 kq a0 l1 l1 (l1.length : Int) x14_1 = some r) ∧ Aside0 (kq ≤ k) ∧ Drawn0 w w')
  case atStart => exact ⟨(0), (by first | rfl | (simp; done) | (simp [*]; done) | (simp [wrap64]; done)), H', ⟨Nat.le_refl _⟩, by repeat (first | exact Drawn0.refl _ | apply Drawn0.step)⟩
  case round =>
   clear H'
   (try clear c1); (try clear p2); (try clear c3); (try clear c4)
   obtain ⟨x14_1, rfl, HA, HK1, ⟨m1, rfl⟩⟩ := hrel
   cases gk with
   | zero => exact absurd HA.out (by simp [gT_lists.l0])
   | succ k1 =>
    have H := HA.out
    clear HA
    simp only [gT_lists.l0] at H
    by_cases c5 : x14_1 < (l1.length : Int)
    ·rw [if_pos c5] at H
     have c5b0 : decide (x14_1 < (l1.length : Int)) = true := decide_eq_true c5
     clear c5
     by_cases c6 : 0 ≤ x14_1
     rotate_left
     ·rw [if_neg c6] at H
      exact absurd H (by simp)
     rw [if_pos c6] at H
     have c6b0 : decide (0 ≤ x14_1) = true := decide_eq_true c6
     clear c6
     by_cases c7 : x14_1 < (l1.length : Int)
     rotate_left
     ·rw [if_neg c7] at H
      exact absurd H (by simp)
     rw [if_pos c7] at H
     have c7b0 : decide (x14_1 < (l1.length : Int)) = true := decide_eq_true c7
     clear c7
     by_cases c8 : ((rd_L4 l1 x14_1).length : Int) > 1024
     ·rw [if_pos c8] at H
      have c8b0 : decide (1024 < ((rd_L4 l1 x14_1).length : Int)) = true := decide_eq_true c8
      have c8b1 : decide (1024 < (rd_L4 l1 x14_1).length) = true := decide_eq_true (by omega)
      clear c8
      obtain rfl := Option.some.inj H
      have p178 : 0 ≤ (x14_1 : Int) := of_decide_eq_true (by first | (with_reducible assumption) | assumption)
      have q178 : x14_1 < (l1.length : Int) := of_decide_eq_true (by first | (with_reducible assumption) | assumption)
      obtain ⟨ad178, A178_0, c178_0, e178, hx178_0, hl178_0, hi178_0⟩ := at_L4 HR1.out x14_1 p178 q178
      cases e178
      have HR178_0 := Aside0.mk hi178_0
      have HC178_0 := Aside0.mk hl178_0
      clear hi178_0 hl178_0
      replace p178 := eq_true p178
      replace q178 := eq_true q178
      go_wp2
      go_ret
      exact ⟨by first | rfl | (simp; done) | (simp [*]; done) | (simp [wrap64]; done), by repeat (first | exact Drawn0.refl _ | apply Drawn0.step)⟩
     ·rw [if_neg c8] at H
      have c8b0 : decide (1024 < ((rd_L4 l1 x14_1).length : Int)) = false := decide_eq_false c8
      have c8b1 : decide (1024 < (rd_L4 l1 x14_1).length) = false := decide_eq_false (by omega)
      clear c8
      have H' := Aside0.mk H
      clear H
      have p178 : 0 ≤ (x14_1 : Int) := of_decide_eq_true (by first | (with_reducible assumption) | assumption)
      have q178 : x14_1 < (l1.length : Int) := of_decide_eq_true (by first | (with_reducible assumption) | assumption)
      obtain ⟨ad178, A178_0, c178_0, e178, hx178_0, hl178_0, hi178_0⟩ := at_L4 HR1.out x14_1 p178 q178
      cases e178
      have HR178_0 := Aside0.mk hi178_0
      have HC178_0 := Aside0.mk hl178_0
      clear hi178_0 hl178_0
      replace p178 := eq_true p178
      replace q178 := eq_true q178
      go_wp2
      go_roundg k1
      case measure => have := HK1.out; omega
      case rel => exact ⟨(wrap64 (x14_1 + 1)), (by first | rfl | (simp; done) | (simp [*]; done) | (simp [wrap64]; done)), H', ⟨by have := HK1.out; omega⟩, by repeat (first | exact Drawn0.refl _ | apply Drawn0.step)⟩
    ·rw [if_neg c5] at H
     have c5b0 : decide (x14_1 < (l1.length : Int)) = false := decide_eq_false c5
     clear c5
     have H' := Aside0.mk H
     clear H
     go_wp2
     go_loopg [24] k1 (fun kq v24 w' => ∃ (x24_2 : Int), v24 = .int .i64 x24_2 ∧ Aside0 (gT_lists.l1 kq a0 l1 (l1.length : Int) x24_2 = some r) ∧ Aside0 (kq ≤ k1) ∧ Drawn0 w w')
     case atStart => exact ⟨(0), (by first | rfl | (simp; done) | (simp [*]; done) | (simp [wrap64]; done)), H', ⟨Nat.le_refl _⟩, by repeat (first | exact Drawn0.refl _ | apply Drawn0.step)⟩
     case round =>
      clear H'
      (try clear c1); (try clear p1); (try clear q1); (try clear hx1); (try clear p2); (try clear c3); (try clear c4); (try clear c5); (try clear c5b0); (try clear c6); (try clear c6b0); (try clear p6); (try clear c7); (try clear c7b0); (try clear c8); (try clear c8b0); (try clear c8b1); (try clear hx178_0)
      (try clear p178); (try clear p2); (try clear q178)
      obtain ⟨x24_2, rfl, HA, HK2, ⟨m2, rfl⟩⟩ := hrel
      cases gk with
      | zero => exact absurd HA.out (by simp [gT_lists.l1])
      | succ k2 =>
       have H := HA.out
       clear HA
       simp only [gT_lists.l1] at H
       by_cases c9 : x24_2 < (l1.length : Int)
       rotate_left
       ·rw [if_neg c9] at H
        have c9b0 : decide (x24_2 < (l1.length : Int)) = false := decide_eq_false c9
        clear c9
        obtain rfl := Option.some.inj H
        go_wp2
        go_ret
        exact ⟨by first | rfl | (simp; done) | (simp [*]; done) | (simp [wrap64]; done), by repeat (first | exact Drawn0.refl _ | apply Drawn0.step)⟩

       rw [if_pos c9] at H
       have c9b0 : decide (x24_2 < (l1.length : Int)) = true := decide_eq_true c9
       clear c9
       by_cases c10 : 0 ≤ x24_2
       rotate_left
       ·rw [if_neg c10] at H
        exact absurd H (by simp)
       rw [if_pos c10] at H
       have c10b0 : decide (0 ≤ x24_2) = true := decide_eq_true c10
       clear c10
       by_cases c11 : x24_2 < (l1.length : Int)
       rotate_left
       ·rw [if_neg c11] at H
        exact absurd H (by simp)
       rw [if_pos c11] at H
       have c11b0 : decide (x24_2 < (l1.length : Int)) = true := decide_eq_true c11
       clear c11
       replace H := Option.bind_eq_some_iff.mp H
       obtain ⟨t180, A120, H⟩ := H
       try dsimp only at H
       have A12 := Aside0.mk A120
       clear A120
       by_cases c13 : t180 = 0
       rotate_left
       ·rw [if_neg c13] at H
        have c13b0 : (t180 == 0) = false := beq_eq_false_iff_ne.mpr c13
        have c13b1 : (t180 != 0) = true := bne_iff_ne.mpr c13
        obtain rfl := Option.some.inj H
        have p179 : 0 ≤ (x24_2 : Int) := of_decide_eq_true (by first | (with_reducible assumption) | assumption)
        have q179 : x24_2 < (l1.length : Int) := of_decide_eq_true (by first | (with_reducible assumption) | assumption)
        obtain ⟨ad179, A179_0, c179_0, e179, hx179_0, hl179_0, hi179_0⟩ := at_L4 HR1.out x24_2 p179 q179
        cases e179
        have HR179_0 := Aside0.mk hi179_0
        have HC179_0 := Aside0.mk hl179_0
        clear hi179_0 hl179_0
        replace p179 := eq_true p179
        replace q179 := eq_true q179
        go_wp2_with (first | (go_at_call 65; (with_reducible refine (gT_check.calls k2 _ a0 _ _ (rd_L4 l1 x24_2) t180 _ ?side1 ?side2 ?side3 A12.out).mono ?_); (case side1 => exact HR0.out); (case side2 => exact mvC HR179_0.out); (case side3 => exact HC179_0.out); rintro e w' ⟨rfl, ⟨nd, rfl⟩⟩))
        go_ret
        exact ⟨by first | rfl | (simp; done) | (simp [*]; done) | (simp [wrap64]; done), by repeat (first | exact Drawn0.refl _ | apply Drawn0.step)⟩
       rw [if_pos c13] at H
       have c13b0 : (t180 == 0) = true := beq_iff_eq.mpr c13
       have c13b1 : (t180 != 0) = false := bne_eq_false_iff_eq.mpr c13
       clear c13
       have H' := Aside0.mk H
       clear H
       have p179 : 0 ≤ (x24_2 : Int) := of_decide_eq_true (by first | (with_reducible assumption) | assumption)
       have q179 : x24_2 < (l1.length : Int) := of_decide_eq_true (by first | (with_reducible assumption) | assumption)
       obtain ⟨ad179, A179_0, c179_0, e179, hx179_0, hl179_0, hi179_0⟩ := at_L4 HR1.out x24_2 p179 q179
       cases e179
       have HR179_0 := Aside0.mk hi179_0
       have HC179_0 := Aside0.mk hl179_0
       clear hi179_0 hl179_0
       replace p179 := eq_true p179
       replace q179 := eq_true q179
       go_wp2_with (first | (go_at_call 65; (with_reducible refine (gT_check.calls k2 _ a0 _ _ (rd_L4 l1 x24_2) t180 _ ?side1 ?side2 ?side3 A12.out).mono ?_); (case side1 => exact HR0.out); (case side2 => exact mvC HR179_0.out); (case side3 => exact HC179_0.out); rintro e w' ⟨rfl, ⟨nd, rfl⟩⟩))
       go_roundg k2
       case measure => have := HK1.out; have := HK2.out; omega
       case rel => exact ⟨(wrap64 (x24_2 + 1)), (by first | rfl | (simp; done) | (simp [*]; done) | (simp [wrap64]; done)), H', ⟨by have := HK1.out; have := HK2.out; omega⟩, by repeat (first | exact Drawn0.refl _ | apply Drawn0.step)⟩
end Go.Proofs.Ytjdkamhnbheofaa.P

-- squeezed
