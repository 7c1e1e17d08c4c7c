-- written by mk.sh, a program of this session, over the kit's print
import Derived.Test.YtjdkamhnbheofaaGpPx0
import Derived.Test.YtjdkamhnbheofaaGpPx7
import Derived.Test.YtjdkamhnbheofaaGpPx13
import Derived.Test.YtjdkamhnbheofaaGpPx16
import Derived.Test.YtjdkamhnbheofaaGpPx17
import Derived.Test.YtjdkamhnbheofaaGpPx18
namespace Go.Proofs.Ytjdkamhnbheofaa.P
open Go.RowKit Go.Proofs.YtjdkamhnbheofaaW.PrintWords Go.Proofs.YtjdkamhnbheofaaW.PrintLast Go.Proofs.YtjdkamhnbheofaaW.PrintMore
attribute [local go_sem] max2_int min2_int max_two min_two max_three min_three max_four min_four   -- for this text's walks alone
set_option linter.unusedVariables false
set_option linter.unusedSimpArgs false

def r3_Divide.j0 : Nat → List Int → List Int → Int → Bool → Int → Int → Option (List Int × List Int × Int)
 | 0, _, _, _, _, _, _ => none
 | k + 1, x1, x2, x9, x23, x571000, x571001 => if x23 = true then (some (([] : List Int), ([] : List Int), 20)) else (if x9 = 0 then ((r3_divide.f k x571000 x571001 x1 x2).bind fun bt575 => (some (bt575.1, bt575.2, 0))) else (some (([] : List Int), ([] : List Int), x9)))
def r3_Divide.f (k : Nat) (a0_0 : Int) (a0_1 : Int) (l1 : List Int) (l2 : List Int) : Option (List Int × List Int × Int) := (r3_wrong.f k a0_0 a0_1 l1 l2).bind fun t571 => (if t571 = 0 then ((r3_Trim.f k l2).bind fun t572 => (r3_Divide.j0 k l1 l2 t571 ((t572.length : Int) == 0) a0_0 a0_1)) else (r3_Divide.j0 k l1 l2 t571 false a0_0 a0_1))
theorem r3_Divide.mono_l : ∀ k, (∀ y0 y1 y2 y3 y4 y5, LeO (r3_Divide.j0 k y0 y1 y2 y3 y4 y5) (r3_Divide.j0 (k + 1) y0 y1 y2 y3 y4 y5))
 | 0 => fun _ _ _ _ _ _ r h => by simp [r3_Divide.j0] at h
 | k + 1 => by
  have ih0 := r3_Divide.mono_l k
  ·intro y0 y1 y2 y3 y4 y5
   unfold r3_Divide.j0
   repeat' first
   | (with_reducible exact ih0 _ _ _ _ _ _)
   | (with_reducible exact r3_Trim.mono _ _)
   | (with_reducible exact r3_divide.mono _ _ _ _ _)
   | (with_reducible exact r3_wrong.mono _ _ _ _ _)
   | (with_reducible exact LeO.refl _)
   | (with_reducible exact LeO.none _)
   | (with_reducible refine LeO.ite ?_ ?_)
   | (with_reducible refine LeO.bind ?_ (fun _ => ?_))
theorem r3_Divide.mono : ∀ a0 a1 a2 a3 k, LeO (r3_Divide.f k a0 a1 a2 a3) (r3_Divide.f (k + 1) a0 a1 a2 a3) := by
 intro a0 a1 a2 a3 k
 have ih0 := r3_Divide.mono_l k
 unfold r3_Divide.f
 repeat' first
   | (with_reducible exact ih0 _ _ _ _ _ _)
   | (with_reducible exact r3_Trim.mono _ _)
   | (with_reducible exact r3_divide.mono _ _ _ _ _)
   | (with_reducible exact r3_wrong.mono _ _ _ _ _)
   | (with_reducible exact LeO.refl _)
   | (with_reducible exact LeO.none _)
   | (with_reducible refine LeO.ite ?_ ?_)
   | (with_reducible refine LeO.bind ?_ (fun _ => ?_))
set_option maxHeartbeats 8000000 in
set_option maxRecDepth 100000 in
theorem r3_Divide.calls (k : Nat) (a0_0 : Int) (a0_1 : Int) (A1 : Option Addr) (c1 : Nat) (l1 : List Int) (A2 : Option Addr) (c2 : Nat) (l2 : List Int) (r1 : List Int) (r2 : List Int) (r3 : Int) (w : World) (hr1 : Kd.C (Kd.int .u8) w A1 l1.length l1) (hc1 : l1.length ≤ c1) (hr2 : Kd.C (Kd.int .u8) w A2 l2.length l2) (hc2 : l2.length ≤ c2) (h : r3_Divide.f k a0_0 a0_1 l1 l2 = some (r1, r2, r3)) :
  Calls Try.prog 29 #[.agg #[.int .i64 a0_0, .int .u64 a0_1], .slice A1 l1.length c1, .slice A2 l2.length c2] w fun e w' => ∃ v0_ v1_ : Value, e = .returned (.tuple #[v0_, v1_, .int .i64 r3]) ∧ Kd.R (Kd.int .u8) 5 w' w.heap.size (fun k_ => some k_ ≠ (v1_ : Value).ownBlock) v0_ r1 ∧ Kd.R (Kd.int .u8) 5 w' w.heap.size (fun k_ => some k_ ≠ (v0_ : Value).ownBlock) v1_ r2 ∧ Below w.heap.size w w' := by
 have hu24 := Try.underlying24
 have HR1 := Aside0.mk hr1
 have HC1 := Aside0.mk hc1
 clear hr1 hc1
 have HR2 := Aside0.mk hr2
 have HC2 := Aside0.mk hc2
 clear hr2 hc2
 have HB := aK (Below.refl w.heap.size w)
 have H : ((r3_wrong.f k a0_0 a0_1 l1 l2).bind fun t571 => (if t571 = 0 then ((r3_Trim.f k l2).bind fun t572 => (r3_Divide.j0 k l1 l2 t571 ((t572.length : Int) == 0) a0_0 a0_1)) else (r3_Divide.j0 k l1 l2 t571 false a0_0 a0_1))) = some (r1, r2, r3) := h
 clear h
 replace H := Option.bind_eq_some_iff.mp H
 obtain ⟨t571, A40, H⟩ := H
 try dsimp only at H
 have A4 := Aside0.mk A40
 clear A40
 have HC5 := Aside0.mk H
 clear H
 go_enter Try.func29, Try.ntmps29
 go_upto_region 2 with (first | ((with_reducible refine gate_dst (N := 3) rfl ?_); (try (refine gate_guard (by rfl) ?_; dsimp only)); refine box_event ?hg (N := 3) ?hd (cs := #[.int .i64 a0_0, .int .u64 a0_1]) (t := 24) ?hr ?_; (case hd => rfl); (case hg => rfl); (case hr => first | (go_simp; done) | (go_simp; rfl)); intro gb570 hg w6 hbox hb; have n0_ := aK (below_step (mvh HB.out) hb); have n1_ := aK (hbox); have n2_ := aK ((by rw [hg]; exact (below_size (mvh HB.out)) : w.heap.size ≤ gb570)); have n3_ := aK ((by rw [hg]; exact (below_size (mvh HB.out)) : w.heap.size ≤ gb570)); clear HB; have HB := n0_; have BK570 := n1_; have GW570 := n2_; have GE570 := n3_; clear n0_ n1_ n2_ n3_; clear hb hbox hg; obtain ⟨hcz7_0, hcz7_1, hfz7_0, hfz7_1⟩ := cf2 BK570.out) | (go_at_call 45; (with_reducible refine (r3_wrong.calls k a0_0 a0_1 _ _ l1 _ _ l2 t571 _ ?side1 ?side2 ?side3 ?side4 A4.out).mono ?_); (case side1 => exact mvC (Kd.C_below HR1.out HB.out)); (case side2 => exact HC1.out); (case side3 => exact mvC (Kd.C_below HR2.out HB.out)); (case side4 => exact HC2.out); rintro e w8 ⟨rfl, hb⟩; have n0_ := aK (kb BK570.out hb); have n1_ := aK (below_step (mvh HB.out) hb); clear BK570 HB; have BK570 := n0_; have HB := n1_; clear n0_ n1_; (try clear hb)))
 (try simp only [Act.put, List.setIfInBounds_toArray, List.set_cons_zero, List.set_cons_succ])
 go_cut [23] (fun v23 wc => ∃ (kq : Nat) (x23_4 : Bool), v23 = .bool x23_4 ∧ Aside0 (r3_Divide.j0 kq l1 l2 t571 x23_4 a0_0 a0_1 = some (r1, r2, r3)) ∧ Aside0 (kq ≤ k) ∧ Aside0 (wc.heap[gb570]? = some (.cells #[.int .i64 a0_0, .int .u64 a0_1] 24 (0, 0))) ∧ Aside0 (Below w.heap.size w wc))
 case first =>
  have H := HC5.out
  clear HC5
  by_cases c9 : t571 = 0
  rotate_left
  ·rw [if_neg c9] at H
   have c9b0 : (t571 == 0) = false := beq_eq_false_iff_ne.mpr c9
   have c9b1 : (t571 != 0) = true := bne_iff_ne.mpr c9
   (first | rw [c9b0] | (simp only [i64_w, i32_w]; rw [c9b0]) | rw [c9b1] | skip)
   have H' := Aside0.mk H
   clear H
   go_wp2
   go_meet
   case rel => exact ⟨_, (false), (by first | rfl | (simp; done) | (simp [*]; done) | (simp [wrap64]; done)), H', ⟨by first | omega | exact Nat.le_refl _⟩, ⟨mvb BK570.out⟩, ⟨mvh HB.out⟩⟩
  rw [if_pos c9] at H
  have c9b0 : (t571 == 0) = true := beq_iff_eq.mpr c9
  have c9b1 : (t571 != 0) = false := bne_eq_false_iff_eq.mpr c9
  clear c9
  (first | rw [c9b0] | (simp only [i64_w, i32_w]; rw [c9b0]) | rw [c9b1] | skip)
  replace H := Option.bind_eq_some_iff.mp H
  obtain ⟨t572, A100, H⟩ := H
  try dsimp only at H
  have A10 := Aside0.mk A100
  clear A100
  have H' := Aside0.mk H
  clear H
  go_wp2_with (first | (go_at_call 16; (with_reducible refine (r3_Trim.calls k (fun k_ => k_ < w.heap.size) _ _ l2 t572 _ ?side1 A10.out).mono ?_); (case side1 => exact Kd.V_mk HC2.out (Kd.F_below (Kd.C_F (Kd.heap_int .u8) HR2.out) (mvh HB.out))); rintro e w11 ⟨v573, rfl, ho0, hb⟩; have n0_ := aK (Kd.R_lower (Kd.R_mono (ok' := fun k_ => True) ho0 (fun _ hk_ => trivial)) (below_size (mvh HB.out))); have n1_ := aK (kb BK570.out hb); have n2_ := aK (below_step (mvh HB.out) hb); clear BK570 HB; have HO574 := n0_; have BK570 := n1_; have HB := n2_; clear n0_ n1_ n2_; (try clear hb); (try clear ho0); obtain ⟨Ao12, co12, eo12⟩ := Kd.R_slice HO574.out; subst eo12))
  go_meet
  case rel => exact ⟨_, (((t572.length : Int) == 0)), (by first | rfl | (simp; done) | (simp [*]; done) | (simp [wrap64]; done)), H', ⟨by first | omega | exact Nat.le_refl _⟩, ⟨mvb BK570.out⟩, ⟨mvh HB.out⟩⟩
 case rest =>
  clear HC5
  (try clear c1); (try clear c2); (try clear p2); (try clear c4); (try clear p6); (try clear c9); (try clear c9b0); (try clear c9b1); (try clear hcz7_0); (try clear hcz7_1); (try clear hfz7_0); (try clear hfz7_1)
  obtain ⟨kq, x23_4, rfl, HA, HJ4, BK570, HB⟩ := hcut
  cases kq with
  | zero => exact absurd HA.out (by simp [r3_Divide.j0])
  | succ kj4 =>
   have H := HA.out
   clear HA
   simp only [r3_Divide.j0] at H
   by_cases c13 : x23_4 = true
   ·subst c13
    have H1 : (some (([] : List Int), ([] : List Int), 20)) = some (r1, r2, r3) := by rw [if_pos rfl] at H; exact H
    clear H
    have H := H1
    clear H1
    simp only [Option.some.injEq, Prod.mk.injEq] at H
    obtain ⟨rfl, rfl, rfl⟩ := H
    go_wp2
    go_ret3
    exact ⟨_, _, by first | rfl | (simp [errW_none, errW_some] <;> rfl) | (simp [*, errW_none, errW_some] <;> rfl), by first | exact Kd.R_nil _ _ _ _ _ | exact Kd.N_nil _ _ _ _ _ | exact Kd.V_nil _ _ _ _ _ | exact Kd.Q_nil _ _ _ _ _ | exact Kd.S_nil _ _ _ _ _, by first | exact Kd.R_nil _ _ _ _ _ | exact Kd.N_nil _ _ _ _ _ | exact Kd.V_nil _ _ _ _ _ | exact Kd.Q_nil _ _ _ _ _ | exact Kd.S_nil _ _ _ _ _, mvh HB.out⟩
   ·replace c13 := Bool.eq_false_iff.mpr c13
    subst c13
    have H1 : (if t571 = 0 then ((r3_divide.f kj4 a0_0 a0_1 l1 l2).bind fun bt575 => (some (bt575.1, bt575.2, 0))) else (some (([] : List Int), ([] : List Int), t571))) = some (r1, r2, r3) := by rw [if_neg (show ¬ (false = true) by decide)] at H; exact H
    clear H
    have H := H1
    clear H1
    by_cases c14 : t571 = 0
    rotate_left
    ·rw [if_neg c14] at H
     have c14b0 : (t571 == 0) = false := beq_eq_false_iff_ne.mpr c14
     have c14b1 : (t571 != 0) = true := bne_iff_ne.mpr c14
     simp only [Option.some.injEq, Prod.mk.injEq] at H
     obtain ⟨rfl, rfl, rfl⟩ := H
     go_wp2
     go_ret3
     exact ⟨_, _, by first | rfl | (simp [errW_none, errW_some] <;> rfl) | (simp [*, errW_none, errW_some] <;> rfl), by first | exact Kd.R_nil _ _ _ _ _ | exact Kd.N_nil _ _ _ _ _ | exact Kd.V_nil _ _ _ _ _ | exact Kd.Q_nil _ _ _ _ _ | exact Kd.S_nil _ _ _ _ _, by first | exact Kd.R_nil _ _ _ _ _ | exact Kd.N_nil _ _ _ _ _ | exact Kd.V_nil _ _ _ _ _ | exact Kd.Q_nil _ _ _ _ _ | exact Kd.S_nil _ _ _ _ _, mvh HB.out⟩

    rw [if_pos c14] at H
    have c14b0 : (t571 == 0) = true := beq_iff_eq.mpr c14
    have c14b1 : (t571 != 0) = false := bne_eq_false_iff_eq.mpr c14
    clear c14
    replace H := Option.bind_eq_some_iff.mp H
    obtain ⟨⟨t575, t578⟩, A150, H⟩ := H
    try dsimp only at H
    have A15 := Aside0.mk A150
    clear A150
    simp only [Option.some.injEq, Prod.mk.injEq] at H
    obtain ⟨rfl, rfl, rfl⟩ := H
    obtain ⟨hcz16_0, hcz16_1, hfz16_0, hfz16_1⟩ := cf2 BK570.out
    go_wp2_with (first | (go_at_call 55; (with_reducible refine (r3_divide.calls kj4 a0_0 a0_1 _ _ l1 _ _ l2 t575 t578 _ ?side1 ?side2 ?side3 ?side4 A15.out).mono ?_); (case side1 => exact mvC (Kd.C_below HR1.out HB.out)); (case side2 => exact HC1.out); (case side3 => exact mvC (Kd.C_below HR2.out HB.out)); (case side4 => exact HC2.out); rintro e w17 ⟨v576, v579, rfl, ho0, ho1, hb⟩; have n0_ := aK (Kd.R_lower ho0 (below_size (mvh HB.out))); have n1_ := aK (Kd.R_lower ho1 (below_size (mvh HB.out))); have n2_ := aK (kb BK570.out hb); have n3_ := aK (below_step (mvh HB.out) hb); clear BK570 HB; have HO577 := n0_; have HO580 := n1_; have BK570 := n2_; have HB := n3_; clear n0_ n1_ n2_ n3_; (try clear hb); (try clear ho0); (try clear ho1)))
    go_ret3
    exact ⟨_, _, by first | rfl | (simp [errW_none, errW_some] <;> rfl) | (simp [*, errW_none, errW_some] <;> rfl), by (with_reducible repeat (first | apply Kd.R_alloc | apply Kd.R_drewN | apply Kd.R_drew)); exact HO577.out, by (with_reducible repeat (first | apply Kd.R_alloc | apply Kd.R_drewN | apply Kd.R_drew)); exact HO580.out, mvh HB.out⟩
def r3_Gcd.l0 : Nat → List Int → List Int → Int → Int → Option (List Int × Int)
 | 0, _, _, _, _ => none
 | k + 1, x9, x10, x582000, x582001 => if (x10.length : Int) > 0 then ((r3_divide.f k x582000 x582001 x9 x10).bind fun bt589 => (r3_Gcd.l0 k x10 bt589.2 x582000 x582001)) else (if (x9.length : Int) = 0 then (some (([] : List Int), 0)) else (if 0 < (x9.length : Int) then ((r3_Inv.f k x582000 x582001 (rd x9 0)).bind fun bt596 => ((r3_product.f k x582000 x582001 x9 (([bt596.1] : List Int))).bind fun t601 => (some (t601, 0)))) else (none)))
def r3_Gcd.f (k : Nat) (a0_0 : Int) (a0_1 : Int) (l1 : List Int) (l2 : List Int) : Option (List Int × Int) := (r3_wrong.f k a0_0 a0_1 l1 l2).bind fun t582 => (if t582 = 0 then ((r3_Trim.f k l1).bind fun t583 => ((r3_Trim.f k l2).bind fun t586 => (r3_Gcd.l0 k t583 t586 a0_0 a0_1))) else (some (([] : List Int), t582)))
theorem r3_Gcd.mono_l : ∀ k, (∀ y0 y1 y2 y3, LeO (r3_Gcd.l0 k y0 y1 y2 y3) (r3_Gcd.l0 (k + 1) y0 y1 y2 y3))
 | 0 => fun _ _ _ _ r h => by simp [r3_Gcd.l0] at h
 | k + 1 => by
  have ih0 := r3_Gcd.mono_l k
  ·intro y0 y1 y2 y3
   unfold r3_Gcd.l0
   repeat' first
   | (with_reducible exact ih0 _ _ _ _)
   | (with_reducible exact r3_Inv.mono _ _ _ _)
   | (with_reducible exact r3_Trim.mono _ _)
   | (with_reducible exact r3_divide.mono _ _ _ _ _)
   | (with_reducible exact r3_product.mono _ _ _ _ _)
   | (with_reducible exact r3_wrong.mono _ _ _ _ _)
   | (with_reducible exact LeO.refl _)
   | (with_reducible exact LeO.none _)
   | (with_reducible refine LeO.ite ?_ ?_)
   | (with_reducible refine LeO.bind ?_ (fun _ => ?_))
theorem r3_Gcd.mono : ∀ a0 a1 a2 a3 k, LeO (r3_Gcd.f k a0 a1 a2 a3) (r3_Gcd.f (k + 1) a0 a1 a2 a3) := by
 intro a0 a1 a2 a3 k
 have ih0 := r3_Gcd.mono_l k
 unfold r3_Gcd.f
 repeat' first
   | (with_reducible exact ih0 _ _ _ _)
   | (with_reducible exact r3_Inv.mono _ _ _ _)
   | (with_reducible exact r3_Trim.mono _ _)
   | (with_reducible exact r3_divide.mono _ _ _ _ _)
   | (with_reducible exact r3_product.mono _ _ _ _ _)
   | (with_reducible exact r3_wrong.mono _ _ _ _ _)
   | (with_reducible exact LeO.refl _)
   | (with_reducible exact LeO.none _)
   | (with_reducible refine LeO.ite ?_ ?_)
   | (with_reducible refine LeO.bind ?_ (fun _ => ?_))
def r3_Gcd.T12 : Bool × List (List Nat × List Nat) := (true, [([], []), ([], []), ([1], [1]), ([2], [2]), ([0, 3], [0, 3]), ([4], [4]), ([5], [5]), ([5], [5]), ([6, 4, 0, 1, 2, 3, 4, 5, 6], [6]), ([7, 8, 0, 1, 2, 3, 4, 5, 6, 7, 8], [7])])
def r3_Gcd.B12 : List Nat := [0, 0, 2, 6, 15, 31, 63, 63, 127, 511]
theorem r3_Gcd.tab12 : rtab .any (opsOf Try.f30 12) = r3_Gcd.T12 := by kernel_rfl
theorem r3_Gcd.bits12 : waitsOk r3_Gcd.T12.2 r3_Gcd.B12 = true := by kernel_rfl
set_option maxHeartbeats 8000000 in
set_option maxRecDepth 100000 in
theorem r3_Gcd.calls (k : Nat) (a0_0 : Int) (a0_1 : Int) (A1 : Option Addr) (c1 : Nat) (l1 : List Int) (A2 : Option Addr) (c2 : Nat) (l2 : List Int) (r1 : List Int) (r2 : Int) (w : World) (hr1 : Kd.C (Kd.int .u8) w A1 l1.length l1) (hc1 : l1.length ≤ c1) (hr2 : Kd.C (Kd.int .u8) w A2 l2.length l2) (hc2 : l2.length ≤ c2) (h : r3_Gcd.f k a0_0 a0_1 l1 l2 = some (r1, r2)) :
  Calls Try.prog 30 #[.agg #[.int .i64 a0_0, .int .u64 a0_1], .slice A1 l1.length c1, .slice A2 l2.length c2] w fun e w' => ∃ v0_ : Value, e = .returned (.tuple #[v0_, .int .i64 r2]) ∧ Kd.R (Kd.int .u8) 5 w' w.heap.size (fun _ => True) v0_ r1 ∧ Below w.heap.size w w' := by
 have hu24 := Try.underlying24
 have HR1 := Aside0.mk hr1
 have HC1 := Aside0.mk hc1
 clear hr1 hc1
 have HR2 := Aside0.mk hr2
 have HC2 := Aside0.mk hc2
 clear hr2 hc2
 have HB := aK (Below.refl w.heap.size w)
 have H : ((r3_wrong.f k a0_0 a0_1 l1 l2).bind fun t582 => (if t582 = 0 then ((r3_Trim.f k l1).bind fun t583 => ((r3_Trim.f k l2).bind fun t586 => (r3_Gcd.l0 k t583 t586 a0_0 a0_1))) else (some (([] : List Int), t582)))) = some (r1, r2) := h
 clear h
 replace H := Option.bind_eq_some_iff.mp H
 obtain ⟨t582, A40, H⟩ := H
 try dsimp only at H
 have A4 := Aside0.mk A40
 clear A40
 by_cases c5 : t582 = 0
 rotate_left
 ·rw [if_neg c5] at H
  have c5b0 : (t582 == 0) = false := beq_eq_false_iff_ne.mpr c5
  have c5b1 : (t582 != 0) = true := bne_iff_ne.mpr c5
  simp only [Option.some.injEq, Prod.mk.injEq] at H
  obtain ⟨rfl, rfl⟩ := H
  go_enter Try.func30, Try.ntmps30
  go_wp2_with (first | ((with_reducible refine gate_dst (N := 3) rfl ?_); refine box_event ?hg (N := 3) ?hd (cs := #[.int .i64 a0_0, .int .u64 a0_1]) (t := 24) ?hr ?_; (case hd => rfl); (case hg => rfl); (case hr => first | (go_simp; done) | (go_simp; rfl)); intro gb581 hg w34 hbox hb; have n0_ := aK (below_step (mvh HB.out) hb); have n1_ := aK (hbox); have n2_ := aK ((by rw [hg]; exact (below_size (mvh HB.out)) : w.heap.size ≤ gb581)); have n3_ := aK ((by rw [hg]; exact (below_size (mvh HB.out)) : w.heap.size ≤ gb581)); clear HB; have HB := n0_; have BK581 := n1_; have GW581 := n2_; have GE581 := n3_; clear n0_ n1_ n2_ n3_; clear hb hbox hg; obtain ⟨hcz35_0, hcz35_1, hfz35_0, hfz35_1⟩ := cf2 BK581.out) | (go_at_call 45; (with_reducible refine (r3_wrong.calls k a0_0 a0_1 _ _ l1 _ _ l2 t582 _ ?side1 ?side2 ?side3 ?side4 A4.out).mono ?_); (case side1 => exact mvC (Kd.C_below HR1.out HB.out)); (case side2 => exact HC1.out); (case side3 => exact mvC (Kd.C_below HR2.out HB.out)); (case side4 => exact HC2.out); rintro e w36 ⟨rfl, hb⟩; have n0_ := aK (kb BK581.out hb); have n1_ := aK (below_step (mvh HB.out) hb); clear BK581 HB; have BK581 := n0_; have HB := n1_; clear n0_ n1_; (try clear hb)))
  go_ret2
  exact ⟨_, by first | rfl | (simp [errW_none, errW_some] <;> rfl) | (simp [*, errW_none, errW_some] <;> rfl), by first | exact Kd.R_nil _ _ _ _ _ | exact Kd.N_nil _ _ _ _ _ | exact Kd.V_nil _ _ _ _ _ | exact Kd.Q_nil _ _ _ _ _ | exact Kd.S_nil _ _ _ _ _, mvh HB.out⟩

 rw [if_pos c5] at H
 have c5b0 : (t582 == 0) = true := beq_iff_eq.mpr c5
 have c5b1 : (t582 != 0) = false := bne_eq_false_iff_eq.mpr c5
 clear c5
 replace H := Option.bind_eq_some_iff.mp H
 obtain ⟨t583, A60, H⟩ := H
 try dsimp only at H
 have A6 := Aside0.mk A60
 clear A60
 replace H := Option.bind_eq_some_iff.mp H
 obtain ⟨t586, A70, H⟩ := H
 try dsimp only at H
 have A7 := Aside0.mk A70
 clear A70
 have H' := Aside0.mk H
 clear H
 go_enter Try.func30, Try.ntmps30
 go_wp2_with (first | ((with_reducible refine gate_dst (N := 3) rfl ?_); refine box_event ?hg (N := 3) ?hd (cs := #[.int .i64 a0_0, .int .u64 a0_1]) (t := 24) ?hr ?_; (case hd => rfl); (case hg => rfl); (case hr => first | (go_simp; done) | (go_simp; rfl)); intro gb581 hg w8 hbox hb; have n0_ := aK (below_step (mvh HB.out) hb); have n1_ := aK (hbox); have n2_ := aK ((by rw [hg]; exact (below_size (mvh HB.out)) : w.heap.size ≤ gb581)); have n3_ := aK ((by rw [hg]; exact (below_size (mvh HB.out)) : w.heap.size ≤ gb581)); clear HB; have HB := n0_; have BK581 := n1_; have GW581 := n2_; have GE581 := n3_; clear n0_ n1_ n2_ n3_; clear hb hbox hg; obtain ⟨hcz9_0, hcz9_1, hfz9_0, hfz9_1⟩ := cf2 BK581.out) | (go_at_call 45; (with_reducible refine (r3_wrong.calls k a0_0 a0_1 _ _ l1 _ _ l2 t582 _ ?side1 ?side2 ?side3 ?side4 A4.out).mono ?_); (case side1 => exact mvC (Kd.C_below HR1.out HB.out)); (case side2 => exact HC1.out); (case side3 => exact mvC (Kd.C_below HR2.out HB.out)); (case side4 => exact HC2.out); rintro e w10 ⟨rfl, hb⟩; have n0_ := aK (kb BK581.out hb); have n1_ := aK (below_step (mvh HB.out) hb); clear BK581 HB; have BK581 := n0_; have HB := n1_; clear n0_ n1_; (try clear hb)) | (go_at_call 16; (with_reducible refine (r3_Trim.calls k (fun k_ => k_ < w.heap.size) _ _ l1 t583 _ ?side1 A6.out).mono ?_); (case side1 => exact Kd.V_mk HC1.out (Kd.F_below (Kd.C_F (Kd.heap_int .u8) HR1.out) (mvh HB.out))); rintro e w11 ⟨v584, rfl, ho0, hb⟩; have n0_ := aK (Kd.R_lower (Kd.R_mono (ok' := fun k_ => True) ho0 (fun _ hk_ => trivial)) (below_size (mvh HB.out))); have n1_ := aK (kb BK581.out hb); have n2_ := aK (below_step (mvh HB.out) hb); clear BK581 HB; have HO585 := n0_; have BK581 := n1_; have HB := n2_; clear n0_ n1_ n2_; (try clear hb); (try clear ho0)) | (go_at_call 16; (with_reducible refine (r3_Trim.calls k (fun k_ => k_ < w.heap.size) _ _ l2 t586 _ ?side1 A7.out).mono ?_); (case side1 => exact Kd.V_mk HC2.out (Kd.F_below (Kd.C_F (Kd.heap_int .u8) HR2.out) (mvh HB.out))); rintro e w12 ⟨v587, rfl, ho0, hb⟩; have n0_ := aK (Kd.R_elder' (mvR HO585.out) (Kd.R_base ho0) hb); have n1_ := aK (Kd.R_lower (Kd.R_new' (Kd.R_mono (ok' := fun k_ => True) ho0 (fun _ hk_ => trivial)) (Kd.R_lt (mvR HO585.out))) (below_size (mvh HB.out))); have n2_ := aK (kb BK581.out hb); have n3_ := aK (below_step (mvh HB.out) hb); clear HO585 BK581 HB; have HO585 := n0_; have HO588 := n1_; have BK581 := n2_; have HB := n3_; clear n0_ n1_ n2_ n3_; (try clear hb); (try clear ho0)))
 go_loopg [9, 10] k (fun kq v9 v10 w' => ∃ (x9_1 : List Int) (x10_1 : List Int), Aside0 (r3_Gcd.l0 kq x9_1 x10_1 a0_0 a0_1 = some (r1, r2)) ∧ Aside0 (kq ≤ k) ∧ Aside0 (Kd.R (Kd.int .u8) 5 w' w.heap.size (fun k_ => some k_ ≠ (v10 : Value).ownBlock) v9 x9_1) ∧ Aside0 (Kd.R (Kd.int .u8) 5 w' w.heap.size (fun k_ => some k_ ≠ (v9 : Value).ownBlock) v10 x10_1) ∧ Aside0 (w'.heap[gb581]? = some (.cells #[.int .i64 a0_0, .int .u64 a0_1] 24 (0, 0))) ∧ Aside0 (Below w.heap.size w w'))
 case atStart => exact ⟨(t583), (t586), H', ⟨Nat.le_refl _⟩, ⟨by (with_reducible repeat (first | apply Kd.R_alloc | apply Kd.R_drewN | apply Kd.R_drew)); exact Kd.R_mono HO585.out (fun _ hk => hk.2)⟩, ⟨by (with_reducible repeat (first | apply Kd.R_alloc | apply Kd.R_drewN | apply Kd.R_drew)); exact Kd.R_mono HO588.out (fun _ hk => hk.2)⟩, ⟨mvb BK581.out⟩, ⟨mvh HB.out⟩⟩
 case round =>
  clear H'
  (try clear c1); (try clear c2); (try clear p2); (try clear c3); (try clear c4); (try clear c5); (try clear c5b0); (try clear c5b1); (try clear hcz9_0); (try clear hcz9_1); (try clear hfz9_0); (try clear hfz9_1)
  obtain ⟨x9_1, x10_1, HA, HK1, HO_9, HO_10, BK581, HB⟩ := hrel
  cases gk with
  | zero => exact absurd HA.out (by simp [r3_Gcd.l0])
  | succ k1 =>
   have H := HA.out
   clear HA
   simp only [r3_Gcd.l0] at H
   by_cases c13 : (x10_1.length : Int) > 0
   ·rw [if_pos c13] at H
    have c13b0 : decide (0 < (x10_1.length : Int)) = true := decide_eq_true c13
    have c13b1 : decide (0 < x10_1.length) = true := decide_eq_true (by omega)
    clear c13
    replace H := Option.bind_eq_some_iff.mp H
    obtain ⟨⟨t589, t592⟩, A140, H⟩ := H
    try dsimp only at H
    have A14 := Aside0.mk A140
    clear A140
    have H' := Aside0.mk H
    clear H
    obtain ⟨Ao15, co15, eo15⟩ := Kd.R_slice HO_10.out
    subst eo15
    obtain ⟨hcz16_0, hcz16_1, hfz16_0, hfz16_1⟩ := cf2 BK581.out
    obtain ⟨Ao17, co17, eo17⟩ := Kd.R_slice HO_9.out
    subst eo17
    go_wp2_with (first | (go_at_call 55; (with_reducible refine (r3_divide.calls k1 a0_0 a0_1 _ _ x9_1 _ _ x10_1 t589 t592 _ ?side1 ?side2 ?side3 ?side4 A14.out).mono ?_); (case side1 => exact mvC (Kd.R_reads' HO_9.out).2.2); (case side2 => exact (Kd.R_reads' HO_9.out).2.1); (case side3 => exact mvC (Kd.R_reads' HO_10.out).2.2); (case side4 => exact (Kd.R_reads' HO_10.out).2.1); rintro e w18 ⟨v590, v593, rfl, ho0, ho1, hb⟩; have n0_ := aK (Kd.R_mono (Kd.R_told (Kd.R_told (Kd.R_old (mvR HO_9.out) hb) (Kd.R_base ho0)) (Kd.R_base ho1)) (fun _ h_ => h_.1)); have n1_ := aK (Kd.R_mono (Kd.R_told (Kd.R_told (Kd.R_old (mvR HO_10.out) hb) (Kd.R_base ho0)) (Kd.R_base ho1)) (fun _ h_ => h_.1)); have n2_ := aK (Kd.R_lower (Kd.R_new' (Kd.R_new' ho0 (Kd.R_lt (mvR HO_9.out))) (Kd.R_lt (mvR HO_10.out))) (below_size (mvh HB.out))); have n3_ := aK (Kd.R_lower (Kd.R_new' (Kd.R_new' ho1 (Kd.R_lt (mvR HO_9.out))) (Kd.R_lt (mvR HO_10.out))) (below_size (mvh HB.out))); have n4_ := aK (kb BK581.out hb); have n5_ := aK (below_step (mvh HB.out) hb); clear HO_9 HO_10 BK581 HB; have HO_9 := n0_; have HO_10 := n1_; have HO591 := n2_; have HO594 := n3_; have BK581 := n4_; have HB := n5_; clear n0_ n1_ n2_ n3_ n4_ n5_; (try clear hb); (try clear ho0); (try clear ho1)))
    go_roundg k1
    case measure => have := HK1.out; omega
    case rel => exact ⟨(x10_1), (t592), H', ⟨by have := HK1.out; omega⟩, ⟨by (with_reducible repeat (first | apply Kd.R_alloc | apply Kd.R_drewN | apply Kd.R_drew)); exact Kd.R_mono HO_10.out (fun _ hk => hk.2)⟩, ⟨by (with_reducible repeat (first | apply Kd.R_alloc | apply Kd.R_drewN | apply Kd.R_drew)); exact Kd.R_mono HO594.out (fun _ hk => hk.2)⟩, ⟨mvb BK581.out⟩, ⟨mvh HB.out⟩⟩
   ·rw [if_neg c13] at H
    have c13b0 : decide (0 < (x10_1.length : Int)) = false := decide_eq_false c13
    have c13b1 : decide (0 < x10_1.length) = false := decide_eq_false (by omega)
    clear c13
    by_cases c19 : (x9_1.length : Int) = 0
    ·rw [if_pos c19] at H
     have c19b0 : ((x9_1.length : Int) == 0) = true := beq_iff_eq.mpr c19
     have c19b1 : ((x9_1.length : Int) != 0) = false := bne_eq_false_iff_eq.mpr c19
     clear c19
     simp only [Option.some.injEq, Prod.mk.injEq] at H
     obtain ⟨rfl, rfl⟩ := H
     obtain ⟨Ao20, co20, eo20⟩ := Kd.R_slice HO_10.out
     subst eo20
     obtain ⟨Ao21, co21, eo21⟩ := Kd.R_slice HO_9.out
     subst eo21
     go_wp2
     go_ret2
     exact ⟨_, by first | rfl | (simp [errW_none, errW_some] <;> rfl) | (simp [*, errW_none, errW_some] <;> rfl), by first | exact Kd.R_nil _ _ _ _ _ | exact Kd.N_nil _ _ _ _ _ | exact Kd.V_nil _ _ _ _ _ | exact Kd.Q_nil _ _ _ _ _ | exact Kd.S_nil _ _ _ _ _, mvh HB.out⟩
    ·rw [if_neg c19] at H
     have c19b0 : ((x9_1.length : Int) == 0) = false := beq_eq_false_iff_ne.mpr c19
     have c19b1 : ((x9_1.length : Int) != 0) = true := bne_iff_ne.mpr c19
     have c19b2 : ¬ (x9_1 = []) := fun h_ => c19 (by rw [h_]; rfl)
     by_cases c22 : 0 < (x9_1.length : Int)
     rotate_left
     ·rw [if_neg c22] at H
      exact absurd H (by simp)
     rw [if_pos c22] at H
     have c22b0 : decide (0 < (x9_1.length : Int)) = true := decide_eq_true c22
     have c22b1 : decide (0 < x9_1.length) = true := decide_eq_true (by omega)
     clear c22
     replace H := Option.bind_eq_some_iff.mp H
     obtain ⟨⟨t596, t597⟩, A230, H⟩ := H
     try dsimp only at H
     have A23 := Aside0.mk A230
     clear A230
     obtain ⟨y598, hy598⟩ : ∃ y_ : List Int, y_ = (([t596] : List Int)) := ⟨_, rfl⟩
     replace H : ((r3_product.f k1 a0_0 a0_1 x9_1 y598).bind fun t601 => (some (t601, 0))) = some (r1, r2) := by rw [hy598]; exact H
     have Ny598 := Aside0.mk hy598
     clear hy598
     replace H := Option.bind_eq_some_iff.mp H
     obtain ⟨t601, A240, H⟩ := H
     replace H : (some (t601, 0)) = some (r1, r2) := H
     have A24 := Aside0.mk A240
     clear A240
     simp only [Option.some.injEq, Prod.mk.injEq] at H
     obtain ⟨rfl, rfl⟩ := H
     obtain ⟨Ao25, co25, eo25⟩ := Kd.R_slice HO_10.out
     subst eo25
     obtain ⟨Ao26, co26, eo26⟩ := Kd.R_slice HO_9.out
     subst eo26
     try go_wp2
     have n0_ := aK (Kd.R_drew HO_9.out)
     have n1_ := aK (Kd.R_drew HO_10.out)
     have n2_ := aK (blk_drew BK581.out)
     have n3_ := aK (below_drew1 HB.out)
     clear HO_9 HO_10 BK581 HB
     have HO_9 := n0_
     have HO_10 := n1_
     have BK581 := n2_
     have HB := n3_
     clear n0_ n1_ n2_ n3_
     have p595 : 0 ≤ (0 : Int) := (by omega)
     have q595 : 0 < (x9_1.length : Int) := of_decide_eq_true (by first | (with_reducible assumption) | assumption)
     obtain ⟨ad595, e595, hx595_0⟩ := Kd.at_int (Kd.R_reads' HO_9.out).2.2 0 p595 q595
     cases e595
     have qi595 : (0 < x9_1.length) = True := eq_true (by omega)
     (try rw [show ((0 : Int)).toNat = 0 from rfl] at hx595_0)
     (try rw [Addr.add_zero'] at hx595_0)
     replace p595 := eq_true p595
     replace q595 := eq_true q595
     refine start_ (n := 10) (S := fun w' => w'.cell? ⟨gb581, 0, none⟩ = some (.int .i64 a0_0) ∧ w'.cell? ⟨gb581, 1, none⟩ = some (.int .u64 a0_1) ∧ w'.cell? ad595 = some (.int .u8 (rd x9_1 0))) (ds := []) #[false, false, false, false, false, false, false, false, false, false] (by kernel_rfl) rfl rfl ⟨(blk_cell BK581.out 0).trans rfl, (blk_cell BK581.out 1).trans rfl, hx595_0⟩ (fun hHeld => ?_); refine with_tabW r3_Gcd.tab12 r3_Gcd.bits12 (fun HT_ HW_ => ?_)
     generalize wr.drew = w27 at HO_9 HO_10 BK581 HB hx595_0 hHeld ⊢
     refine pure_ (i := 1) (N := some 43) (v := ?_) (a' := ?_) #[false, true, false, false, false, false, false, false, false, false] rfl rfl (any_of HT_.out (by kernel_rfl)) (fun _ _ _ h => h) (Or.inl ⟨by rfl, ?_⟩) ?_ ?_
     rotate_left
     ·intro w'
      go_simp
      with_reducible rfl
     rotate_left
     ·simp only [Act.put, List.setIfInBounds_toArray, List.set_cons_zero, List.set_cons_succ, i64_w, i32_w]
      rfl
     refine pure_ (i := 2) (N := some 44) (v := ?_) (a' := ?_) #[false, true, true, false, false, false, false, false, false, false] rfl rfl (any_of HT_.out (by kernel_rfl)) (fun _ _ _ h => h) (Or.inl ⟨by rfl, ?_⟩) ?_ ?_
     rotate_left
     ·intro w'
      go_simp
      with_reducible rfl
     rotate_left
     ·simp only [Act.put, List.setIfInBounds_toArray, List.set_cons_zero, List.set_cons_succ, i64_w, i32_w]
      rfl
     refine take_ (i := 0) (N := some 42) (v := ?_) (a' := ?_) #[true, true, true, false, false, false, false, false, false, false] rfl rfl (take_ofW HT_.out HW_.out (by kernel_rfl)) (fun _ _ _ h => h) (Or.inl ⟨by rfl, ?_⟩) hHeld ?_ ?_
     rotate_left
     ·rintro w' ⟨s0, s1, s2⟩
      go_simp
      with_reducible rfl
     rotate_left
     ·simp only [Act.put, List.setIfInBounds_toArray, List.set_cons_zero, List.set_cons_succ, i64_w, i32_w]
      rfl
     refine take_ (i := 3) (N := some 45) (v := ?_) (a' := ?_) #[true, true, true, true, false, false, false, false, false, false] rfl rfl (take_ofW HT_.out HW_.out (by kernel_rfl)) (fun _ _ _ h => h) (Or.inl ⟨by rfl, ?_⟩) hHeld ?_ ?_
     rotate_left
     ·rintro w' ⟨s0, s1, s2⟩
      go_simp
      with_reducible rfl
     rotate_left
     ·simp only [Act.put, List.setIfInBounds_toArray, List.set_cons_zero, List.set_cons_succ, i64_w, i32_w]
      rfl
     refine one_ (i := 4) (N := some 46) #[true, true, true, true, true, false, false, false, false, false] rfl rfl (one_of HT_.out (by kernel_rfl)) (by decide) (fun K hK => ?_)
     refine goes_ Try.func47 (by kernel_rfl) rfl #[.agg #[.int .i64 a0_0, .int .u64 a0_1], .int .u8 (rd x9_1 0)] (by rfl) rfl rfl (by (try simp only [List.map_toArray, List.map_cons, List.map_nil]) <;> rfl) ?_
     with_reducible refine (r3_Inv.calls k1 a0_0 a0_1 (rd x9_1 0) t596 t597 _ A23.out).mono ?_
     rintro e w28 ⟨rfl, hb⟩
     have HS2_ := (hb.cell (World.block_lt_of_cell? _ _ (hHeld.2.2))).trans (hHeld.2.2)
     refine ⟨_, rfl, ?_⟩
     have n0_ := aK (Kd.R_below (mvR HO_9.out) hb)
     have n1_ := aK (Kd.R_below (mvR HO_10.out) hb)
     have n2_ := aK (kb BK581.out hb)
     have n3_ := aK (below_step (mvh HB.out) hb)
     clear HO_9 HO_10 BK581 HB
     have HO_9 := n0_
     have HO_10 := n1_
     have BK581 := n2_
     have HB := n3_
     clear n0_ n1_ n2_ n3_
     (try clear hb)
     refine hK.out _ _ ⟨(blk_cell BK581.out 0).trans rfl, (blk_cell BK581.out 1).trans rfl, HS2_⟩ (fun hHeld => ?_)
     clear hK K
     refine norm_ (a' := ?_) ?_ ?_
     rotate_left
     ·show Act.put _ (some 46) _ = _
      simp only [Act.put, List.setIfInBounds_toArray, List.set_cons_zero, List.set_cons_succ, i64_w, i32_w]
      rfl
     refine pure_ (i := 5) (N := some 41) (v := ?_) (a' := ?_) #[true, true, true, true, true, true, false, false, false, false] rfl rfl (any_of HT_.out (by kernel_rfl)) (fun _ _ _ h => h) (Or.inl ⟨by rfl, ?_⟩) ?_ ?_
     rotate_left
     ·intro w'
      go_simp
      with_reducible rfl
     rotate_left
     ·simp only [Act.put, List.setIfInBounds_toArray, List.set_cons_zero, List.set_cons_succ, i64_w, i32_w]
      rfl
     refine pure_ (i := 6) (N := some 47) (v := ?_) (a' := ?_) #[true, true, true, true, true, true, true, false, false, false] rfl rfl (any_of HT_.out (by kernel_rfl)) (fun _ _ _ h => h) (Or.inl ⟨by rfl, ?_⟩) ?_ ?_
     rotate_left
     ·intro w'
      go_simp
      with_reducible rfl
     rotate_left
     ·simp only [Act.put, List.setIfInBounds_toArray, List.set_cons_zero, List.set_cons_succ, i64_w, i32_w]
      rfl
     refine pure_ (i := 7) (N := some 48) (v := ?_) (a' := ?_) #[true, true, true, true, true, true, true, true, false, false] rfl rfl (any_of HT_.out (by kernel_rfl)) (fun _ _ _ h => h) (Or.inl ⟨by rfl, ?_⟩) ?_ ?_
     rotate_left
     ·intro w'
      go_simp
      with_reducible rfl
     rotate_left
     ·simp only [Act.put, List.setIfInBounds_toArray, List.set_cons_zero, List.set_cons_succ, i64_w, i32_w]
      rfl
     refine pure_ (i := 8) (N := some 13) (v := ?_) (a' := ?_) #[true, true, true, true, true, true, true, true, true, false] rfl rfl (any_of HT_.out (by kernel_rfl)) (fun _ _ _ h => h) (Or.inl ⟨by rfl, ?_⟩) ?_ ?_
     rotate_left
     ·intro w'
      go_simp
      with_reducible rfl
     rotate_left
     ·simp only [Act.put, List.setIfInBounds_toArray, List.set_cons_zero, List.set_cons_succ, i64_w, i32_w]
      rfl
     refine pure_ (i := 9) (N := some 14) (v := ?_) (a' := ?_) #[true, true, true, true, true, true, true, true, true, true] rfl rfl (any_of HT_.out (by kernel_rfl)) (fun _ _ _ h => h) (Or.inl ⟨by rfl, ?_⟩) ?_ ?_
     rotate_left
     ·intro w'
      go_simp
      with_reducible rfl
     rotate_left
     ·simp only [Act.put, List.setIfInBounds_toArray, List.set_cons_zero, List.set_cons_succ, i64_w, i32_w]
      rfl
     refine done_ (done_of HT_.out (by kernel_rfl)) ?_
     obtain ⟨hcz29_0, hcz29_1, hfz29_0, hfz29_1⟩ := cf2 BK581.out
     try go_wp2_with (first | ((with_reducible refine gate_dst (N := 52) rfl ?_); refine Kd.R_lit (Kd.int .u8) _ 5 ?hg (N := 52) ?hd (xs := ([t596] : List Int)) (inner := [.int .u8 t596]) (ok := fun _ => True) (okp := fun _ => True) ?hr ?hp (fun _ hk => hk) trivial (Below.refl _ _) (Nat.le_refl _) (by simp) ?_; (case hd => rfl); (case hg => rfl); (case hr => first | (go_simp; done) | (go_simp; rfl)); (case hp => exact (Reps.one (show Kd.M (Kd.int .u8) _ _ _ t596 [.int .u8 t596] from rfl) (Reps.none _ _))); intro v599 w30 ho31 hb hg_ hnew_; clear hg_ hnew_; (first | rw [← Ny598.out] at ho31 | (simp only [Int.reduceToNat] at ho31; rw [← Ny598.out] at ho31)); have n0_ := aK (Kd.R_elder' (mvR HO_9.out) (Kd.R_base ho31) hb); have n1_ := aK (Kd.R_elder' (mvR HO_10.out) (Kd.R_base ho31) hb); have n2_ := aK (Kd.R_lower (Kd.R_new' (Kd.R_new' ho31 (Kd.R_lt (mvR HO_9.out))) (Kd.R_lt (mvR HO_10.out))) (below_size (mvh HB.out))); have n3_ := aK (kb BK581.out hb); have n4_ := aK (below_step (mvh HB.out) hb); clear HO_9 HO_10 BK581 HB; have HO_9 := n0_; have HO_10 := n1_; have HO600 := n2_; have BK581 := n3_; have HB := n4_; clear n0_ n1_ n2_ n3_ n4_; clear hb ho31; obtain ⟨Ao32, co32, eo32⟩ := Kd.R_slice HO600.out; subst eo32) | (go_at_call 50; (with_reducible refine (r3_product.calls k1 a0_0 a0_1 _ _ x9_1 _ _ y598 t601 _ ?side1 ?side2 ?side3 ?side4 A24.out).mono ?_); (case side1 => exact mvC (Kd.R_reads' HO_9.out).2.2); (case side2 => exact (Kd.R_reads' HO_9.out).2.1); (case side3 => exact mvC (Kd.R_reads' HO600.out).2.2); (case side4 => exact (Kd.R_reads' HO600.out).2.1); rintro e w33 ⟨v602, rfl, ho0, hb⟩; have n0_ := aK (Kd.R_elder' (mvR HO_9.out) (Kd.R_base ho0) hb); have n1_ := aK (Kd.R_elder' (mvR HO_10.out) (Kd.R_base ho0) hb); have n2_ := aK (Kd.R_elder' (mvR HO600.out) (Kd.R_base ho0) hb); have n3_ := aK (Kd.R_lower (Kd.R_new' (Kd.R_new' (Kd.R_new' ho0 (Kd.R_lt (mvR HO_9.out))) (Kd.R_lt (mvR HO_10.out))) (Kd.R_lt (mvR HO600.out))) (below_size (mvh HB.out))); have n4_ := aK (kb BK581.out hb); have n5_ := aK (below_step (mvh HB.out) hb); clear HO_9 HO_10 HO600 BK581 HB; have HO_9 := n0_; have HO_10 := n1_; have HO600 := n2_; have HO603 := n3_; have BK581 := n4_; have HB := n5_; clear n0_ n1_ n2_ n3_ n4_ n5_; (try clear hb); (try clear ho0)))
     go_ret2
     exact ⟨_, by first | rfl | (simp [errW_none, errW_some] <;> rfl) | (simp [*, errW_none, errW_some] <;> rfl), by (with_reducible repeat (first | apply Kd.R_alloc | apply Kd.R_drewN | apply Kd.R_drew)); exact Kd.R_mono HO603.out (fun _ hk => trivial), mvh HB.out⟩
def r3_Derive.l0 : Nat → List Int → List Int → Int → Option (List Int × Int)
 | 0, _, _, _ => none
 | k + 1, x1, x7, x8 => if (wrap64 (x8 + 1)) < (x1.length : Int) then (if (Int.tmod (wrap64 ((wrap64 ((x1.length : Int) - 1)) - x8)) 2) = 1 then (if 0 ≤ x8 then (if x8 < (x1.length : Int) then (if x7.length < 140737488355328 then (r3_Derive.l0 k x1 (x7 ++ [rd x1 x8]) (wrap64 (x8 + 1))) else (none)) else (none)) else (none)) else (if x7.length < 140737488355328 then (r3_Derive.l0 k x1 (x7 ++ [0]) (wrap64 (x8 + 1))) else (none))) else ((r3_Trim.f k x7).bind fun t613 => (some (t613, 0)))
def r3_Derive.f (k : Nat) (a0_0 : Int) (a0_1 : Int) (l1 : List Int) : Option (List Int × Int) := (r3_wrong.f k a0_0 a0_1 l1 ([] : List Int)).bind fun t605 => (if t605 = 0 then (r3_Derive.l0 k l1 ([] : List Int) 0) else (some (([] : List Int), t605)))
theorem r3_Derive.mono_l : ∀ k, (∀ y0 y1 y2, LeO (r3_Derive.l0 k y0 y1 y2) (r3_Derive.l0 (k + 1) y0 y1 y2))
 | 0 => fun _ _ _ r h => by simp [r3_Derive.l0] at h
 | k + 1 => by
  have ih0 := r3_Derive.mono_l k
  ·intro y0 y1 y2
   unfold r3_Derive.l0
   repeat' first
   | (with_reducible exact ih0 _ _ _)
   | (with_reducible exact r3_Trim.mono _ _)
   | (with_reducible exact r3_wrong.mono _ _ _ _ _)
   | (with_reducible exact LeO.refl _)
   | (with_reducible exact LeO.none _)
   | (with_reducible refine LeO.ite ?_ ?_)
   | (with_reducible refine LeO.bind ?_ (fun _ => ?_))
theorem r3_Derive.mono : ∀ a0 a1 a2 k, LeO (r3_Derive.f k a0 a1 a2) (r3_Derive.f (k + 1) a0 a1 a2) := by
 intro a0 a1 a2 k
 have ih0 := r3_Derive.mono_l k
 unfold r3_Derive.f
 repeat' first
   | (with_reducible exact ih0 _ _ _)
   | (with_reducible exact r3_Trim.mono _ _)
   | (with_reducible exact r3_wrong.mono _ _ _ _ _)
   | (with_reducible exact LeO.refl _)
   | (with_reducible exact LeO.none _)
   | (with_reducible refine LeO.ite ?_ ?_)
   | (with_reducible refine LeO.bind ?_ (fun _ => ?_))
set_option maxHeartbeats 8000000 in
set_option maxRecDepth 100000 in
theorem r3_Derive.calls (k : Nat) (a0_0 : Int) (a0_1 : Int) (A1 : Option Addr) (c1 : Nat) (l1 : List Int) (r1 : List Int) (r2 : Int) (w : World) (hr1 : Kd.C (Kd.int .u8) w A1 l1.length l1) (hc1 : l1.length ≤ c1) (h : r3_Derive.f k a0_0 a0_1 l1 = some (r1, r2)) :
  Calls Try.prog 31 #[.agg #[.int .i64 a0_0, .int .u64 a0_1], .slice A1 l1.length c1] w fun e w' => ∃ v0_ : Value, e = .returned (.tuple #[v0_, .int .i64 r2]) ∧ Kd.R (Kd.int .u8) 5 w' w.heap.size (fun _ => True) v0_ r1 ∧ Below w.heap.size w w' := by
 have hu24 := Try.underlying24
 have HR1 := Aside0.mk hr1
 have HC1 := Aside0.mk hc1
 clear hr1 hc1
 have HB := aK (Below.refl w.heap.size w)
 have H : ((r3_wrong.f k a0_0 a0_1 l1 ([] : List Int)).bind fun t605 => (if t605 = 0 then (r3_Derive.l0 k l1 ([] : List Int) 0) else (some (([] : List Int), t605)))) = some (r1, r2) := h
 clear h
 replace H := Option.bind_eq_some_iff.mp H
 obtain ⟨t605, A30, H⟩ := H
 try dsimp only at H
 have A3 := Aside0.mk A30
 clear A30
 by_cases c4 : t605 = 0
 rotate_left
 ·rw [if_neg c4] at H
  have c4b0 : (t605 == 0) = false := beq_eq_false_iff_ne.mpr c4
  have c4b1 : (t605 != 0) = true := bne_iff_ne.mpr c4
  simp only [Option.some.injEq, Prod.mk.injEq] at H
  obtain ⟨rfl, rfl⟩ := H
  go_enter Try.func31, Try.ntmps31
  go_wp2_with (first | ((with_reducible refine gate_dst (N := 2) rfl ?_); refine box_event ?hg (N := 2) ?hd (cs := #[.int .i64 a0_0, .int .u64 a0_1]) (t := 24) ?hr ?_; (case hd => rfl); (case hg => rfl); (case hr => first | (go_simp; done) | (go_simp; rfl)); intro gb604 hg w19 hbox hb; have n0_ := aK (below_step (mvh HB.out) hb); have n1_ := aK (hbox); have n2_ := aK ((by rw [hg]; exact (below_size (mvh HB.out)) : w.heap.size ≤ gb604)); have n3_ := aK ((by rw [hg]; exact (below_size (mvh HB.out)) : w.heap.size ≤ gb604)); clear HB; have HB := n0_; have BK604 := n1_; have GW604 := n2_; have GE604 := n3_; clear n0_ n1_ n2_ n3_; clear hb hbox hg; obtain ⟨hcz20_0, hcz20_1, hfz20_0, hfz20_1⟩ := cf2 BK604.out) | (go_at_call 45; (refine (r3_wrong.calls k a0_0 a0_1 _ _ l1 _ _ ([] : List Int) t605 _ ?side1 ?side2 ?side3 ?side4 A3.out).mono ?_); (case side1 => exact mvC (Kd.C_below HR1.out HB.out)); (case side2 => exact HC1.out); (case side3 => exact Kd.C_nil _ _); (case side4 => exact Nat.le_refl _); rintro e w21 ⟨rfl, hb⟩; have n0_ := aK (kb BK604.out hb); have n1_ := aK (below_step (mvh HB.out) hb); clear BK604 HB; have BK604 := n0_; have HB := n1_; clear n0_ n1_; (try clear hb)))
  go_ret2
  exact ⟨_, by first | rfl | (simp [errW_none, errW_some] <;> rfl) | (simp [*, errW_none, errW_some] <;> rfl), by first | exact Kd.R_nil _ _ _ _ _ | exact Kd.N_nil _ _ _ _ _ | exact Kd.V_nil _ _ _ _ _ | exact Kd.Q_nil _ _ _ _ _ | exact Kd.S_nil _ _ _ _ _, mvh HB.out⟩

 rw [if_pos c4] at H
 have c4b0 : (t605 == 0) = true := beq_iff_eq.mpr c4
 have c4b1 : (t605 != 0) = false := bne_eq_false_iff_eq.mpr c4
 clear c4
 have H' := Aside0.mk H
 clear H
 go_enter Try.func31, Try.ntmps31
 go_wp2_with (first | ((with_reducible refine gate_dst (N := 2) rfl ?_); refine box_event ?hg (N := 2) ?hd (cs := #[.int .i64 a0_0, .int .u64 a0_1]) (t := 24) ?hr ?_; (case hd => rfl); (case hg => rfl); (case hr => first | (go_simp; done) | (go_simp; rfl)); intro gb604 hg w5 hbox hb; have n0_ := aK (below_step (mvh HB.out) hb); have n1_ := aK (hbox); have n2_ := aK ((by rw [hg]; exact (below_size (mvh HB.out)) : w.heap.size ≤ gb604)); have n3_ := aK ((by rw [hg]; exact (below_size (mvh HB.out)) : w.heap.size ≤ gb604)); clear HB; have HB := n0_; have BK604 := n1_; have GW604 := n2_; have GE604 := n3_; clear n0_ n1_ n2_ n3_; clear hb hbox hg; obtain ⟨hcz6_0, hcz6_1, hfz6_0, hfz6_1⟩ := cf2 BK604.out) | (go_at_call 45; (refine (r3_wrong.calls k a0_0 a0_1 _ _ l1 _ _ ([] : List Int) t605 _ ?side1 ?side2 ?side3 ?side4 A3.out).mono ?_); (case side1 => exact mvC (Kd.C_below HR1.out HB.out)); (case side2 => exact HC1.out); (case side3 => exact Kd.C_nil _ _); (case side4 => exact Nat.le_refl _); rintro e w7 ⟨rfl, hb⟩; have n0_ := aK (kb BK604.out hb); have n1_ := aK (below_step (mvh HB.out) hb); clear BK604 HB; have BK604 := n0_; have HB := n1_; clear n0_ n1_; (try clear hb)))
 go_loopg [7, 8] k (fun kq v7 v8 w' => ∃ (x7_1 : List Int) (x8_1 : Int), v8 = .int .i64 x8_1 ∧ Aside0 (r3_Derive.l0 kq l1 x7_1 x8_1 = some (r1, r2)) ∧ Aside0 (kq ≤ k) ∧ Aside0 (Kd.R (Kd.int .u8) 5 w' w.heap.size (fun _ => True) v7 x7_1) ∧ Aside0 (w'.heap[gb604]? = some (.cells #[.int .i64 a0_0, .int .u64 a0_1] 24 (0, 0))) ∧ Aside0 (Below w.heap.size w w'))
 case atStart => exact ⟨(([] : List Int)), (0), (by first | rfl | (simp; done) | (simp [*]; done) | (simp [wrap64]; done)), H', ⟨Nat.le_refl _⟩, ⟨by first | exact Kd.R_nil _ _ _ _ _ | exact Kd.N_nil _ _ _ _ _ | exact Kd.V_nil _ _ _ _ _ | exact Kd.Q_nil _ _ _ _ _ | exact Kd.S_nil _ _ _ _ _⟩, ⟨mvb BK604.out⟩, ⟨mvh HB.out⟩⟩
 case round =>
  clear H'
  (try clear c1); (try clear p2); (try clear c3); (try clear c4); (try clear c4b0); (try clear c4b1); (try clear p6); (try clear hcz6_0); (try clear hcz6_1); (try clear hfz6_0); (try clear hfz6_1)
  obtain ⟨x7_1, x8_1, rfl, HA, HK1, HO_7, BK604, HB⟩ := hrel
  cases gk with
  | zero => exact absurd HA.out (by simp [r3_Derive.l0])
  | succ k1 =>
   have H := HA.out
   clear HA
   simp only [r3_Derive.l0] at H
   by_cases c8 : (wrap64 (x8_1 + 1)) < (l1.length : Int)
   rotate_left
   ·rw [if_neg c8] at H
    have c8b0 : decide ((wrap64 (x8_1 + 1)) < (l1.length : Int)) = false := decide_eq_false c8
    clear c8
    replace H := Option.bind_eq_some_iff.mp H
    obtain ⟨t613, A160, H⟩ := H
    replace H : (some (t613, 0)) = some (r1, r2) := H
    have A16 := Aside0.mk A160
    clear A160
    simp only [Option.some.injEq, Prod.mk.injEq] at H
    obtain ⟨rfl, rfl⟩ := H
    obtain ⟨Ao17, co17, eo17⟩ := Kd.R_slice HO_7.out
    subst eo17
    go_wp2_with (first | (go_at_call 16; (with_reducible refine (r3_Trim.calls k1 (fun k_ => some k_ = (.slice Ao17 x7_1.length co17 : Value).ownBlock) _ _ x7_1 t613 _ ?side1 A16.out).mono ?_); (case side1 => exact Kd.R_V (Kd.R_tight rfl (Kd.R_types (HO_7.out) BK604.out (by decide)))); rintro e w18 ⟨v614, rfl, ho0, hb⟩; have n0_ := aK (Kd.R_elder' (mvR HO_7.out) (Kd.R_base ho0) hb); have n1_ := aK (Kd.R_lower (Kd.R_new' (Kd.R_mono (ok' := fun k_ => True) ho0 (fun _ hk_ => trivial)) (Kd.R_lt (mvR HO_7.out))) (below_size (mvh HB.out))); have n2_ := aK (kb BK604.out hb); have n3_ := aK (below_step (mvh HB.out) hb); clear HO_7 BK604 HB; have HO_7 := n0_; have HO615 := n1_; have BK604 := n2_; have HB := n3_; clear n0_ n1_ n2_ n3_; (try clear hb); (try clear ho0)))
    go_ret2
    exact ⟨_, by first | rfl | (simp [errW_none, errW_some] <;> rfl) | (simp [*, errW_none, errW_some] <;> rfl), by (with_reducible repeat (first | apply Kd.R_alloc | apply Kd.R_drewN | apply Kd.R_drew)); exact Kd.R_mono HO615.out (fun _ hk => trivial), mvh HB.out⟩
   rw [if_pos c8] at H
   have c8b0 : decide ((wrap64 (x8_1 + 1)) < (l1.length : Int)) = true := decide_eq_true c8
   clear c8
   by_cases c9 : (Int.tmod (wrap64 ((wrap64 ((l1.length : Int) - 1)) - x8_1)) 2) = 1
   rotate_left
   ·rw [if_neg c9] at H
    have c9b0 : ((Int.tmod (wrap64 ((wrap64 ((l1.length : Int) - 1)) - x8_1)) 2) == 1) = false := beq_eq_false_iff_ne.mpr c9
    have c9b1 : ((Int.tmod (wrap64 ((wrap64 ((l1.length : Int) - 1)) - x8_1)) 2) != 1) = true := bne_iff_ne.mpr c9
    clear c9
    by_cases c14 : x7_1.length < 140737488355328
    rotate_left
    ·rw [if_neg c14] at H
     exact absurd H (by simp)
    rw [if_pos c14] at H
    have LMc14 := Aside0.mk c14
    clear c14
    obtain ⟨y610, hy610⟩ : ∃ y_ : List Int, y_ = (x7_1 ++ [0]) := ⟨_, rfl⟩
    replace H : (r3_Derive.l0 k1 l1 y610 (wrap64 (x8_1 + 1))) = some (r1, r2) := by rw [hy610]; exact H
    have Ny610 := Aside0.mk hy610
    clear hy610
    have H' := Aside0.mk H
    clear H
    go_wp2_with (first | ((with_reducible refine gate_builtin (b := .append) (xs := #[.tmp 36, .tmp 37]) rfl ?_); at_builtin; refine Kd.R_append (Kd.int .u8) (w0 := w) w.heap.size rfl (.tmp 36) (.tmp 37) 25 5 (.int .u8 0) 1 rfl Try.underlying25 info5 rfl (by decide) (by omega) u7 x7_1 0 [.int .u8 0] (fun _ => True) (fun _ => False) rfl rfl ?aP (fun _ hk => hk.elim) ?aF ?aO ?aB ?aS ?aL ?_; (case aP => exact rfl); (case aB => exact (mvh HB.out)); (case aF => exact (fun _ _ => trivial)); (case aO => exact (mvR HO_7.out)); (case aS => exact (below_size (mvh HB.out))); (case aL => have := LMc14.out; omega); intro v611 w15 ho hb hg hat; rw [← Ny610.out] at ho; have n0_ := aK (blk_grown (g := gb604) (o := .cells #[.int .i64 a0_0, .int .u64 a0_1] 24 (0, 0)) (mvb BK604.out) hg (Kd.R_ne HO_7.out BK604.out (by decide))); have n1_ := aK (hb); have n2_ := aK (ho); clear BK604 HB HO_7; have BK604 := n0_; have HB := n1_; have HO612 := n2_; clear n0_ n1_ n2_; clear ho hb hg hat))
    go_roundg k1
    case measure => have := HK1.out; omega
    case rel => exact ⟨(y610), (wrap64 (x8_1 + 1)), (by first | rfl | (simp; done) | (simp [*]; done) | (simp [wrap64]; done)), H', ⟨by have := HK1.out; omega⟩, ⟨mvR HO612.out⟩, ⟨mvb BK604.out⟩, ⟨mvh HB.out⟩⟩
   rw [if_pos c9] at H
   have c9b0 : ((Int.tmod (wrap64 ((wrap64 ((l1.length : Int) - 1)) - x8_1)) 2) == 1) = true := beq_iff_eq.mpr c9
   have c9b1 : ((Int.tmod (wrap64 ((wrap64 ((l1.length : Int) - 1)) - x8_1)) 2) != 1) = false := bne_eq_false_iff_eq.mpr c9
   clear c9
   by_cases c10 : 0 ≤ x8_1
   rotate_left
   ·rw [if_neg c10] at H
    exact absurd H (by simp)
   rw [if_pos c10] at H
   have c10b0 : decide (0 ≤ x8_1) = true := decide_eq_true c10
   clear c10
   by_cases c11 : x8_1 < (l1.length : Int)
   rotate_left
   ·rw [if_neg c11] at H
    exact absurd H (by simp)
   rw [if_pos c11] at H
   have c11b0 : decide (x8_1 < (l1.length : Int)) = true := decide_eq_true c11
   clear c11
   by_cases c12 : x7_1.length < 140737488355328
   rotate_left
   ·rw [if_neg c12] at H
    exact absurd H (by simp)
   rw [if_pos c12] at H
   have LMc12 := Aside0.mk c12
   clear c12
   obtain ⟨y607, hy607⟩ : ∃ y_ : List Int, y_ = (x7_1 ++ [rd l1 x8_1]) := ⟨_, rfl⟩
   replace H : (r3_Derive.l0 k1 l1 y607 (wrap64 (x8_1 + 1))) = some (r1, r2) := by rw [hy607]; exact H
   have Ny607 := Aside0.mk hy607
   clear hy607
   have H' := Aside0.mk H
   clear H
   have p606 : 0 ≤ (x8_1 : Int) := of_decide_eq_true (by first | (with_reducible assumption) | assumption)
   have q606 : x8_1 < (l1.length : Int) := of_decide_eq_true (by first | (with_reducible assumption) | assumption)
   obtain ⟨ad606, e606, hx606_0⟩ := Kd.at_int HR1.out x8_1 p606 q606
   cases e606
   replace hx606_0 := (HB.out.cell (World.block_lt_of_cell? w _ hx606_0)).trans hx606_0
   replace p606 := eq_true p606
   replace q606 := eq_true q606
   go_wp2_with (first | ((with_reducible refine gate_builtin (b := .append) (xs := #[.tmp 29, .tmp 34]) rfl ?_); at_builtin; refine Kd.R_append (Kd.int .u8) (w0 := w) w.heap.size rfl (.tmp 29) (.tmp 34) 25 5 (.int .u8 0) 1 rfl Try.underlying25 info5 rfl (by decide) (by omega) u7 x7_1 (rd l1 x8_1) [.int .u8 (rd l1 x8_1)] (fun _ => True) (fun _ => False) rfl rfl ?aP (fun _ hk => hk.elim) ?aF ?aO ?aB ?aS ?aL ?_; (case aP => exact rfl); (case aB => exact (mvh HB.out)); (case aF => exact (fun _ _ => trivial)); (case aO => exact (mvR HO_7.out)); (case aS => exact (below_size (mvh HB.out))); (case aL => have := LMc12.out; omega); intro v608 w13 ho hb hg hat; rw [← Ny607.out] at ho; have n0_ := aK (blk_grown (g := gb604) (o := .cells #[.int .i64 a0_0, .int .u64 a0_1] 24 (0, 0)) (mvb BK604.out) hg (Kd.R_ne HO_7.out BK604.out (by decide))); have n1_ := aK (hb); have n2_ := aK (ho); clear BK604 HB HO_7; have BK604 := n0_; have HB := n1_; have HO609 := n2_; clear n0_ n1_ n2_; clear ho hb hg hat))
   go_roundg k1
   case measure => have := HK1.out; omega
   case rel => exact ⟨(y607), (wrap64 (x8_1 + 1)), (by first | rfl | (simp; done) | (simp [*]; done) | (simp [wrap64]; done)), H', ⟨by have := HK1.out; omega⟩, ⟨mvR HO609.out⟩, ⟨mvb BK604.out⟩, ⟨mvh HB.out⟩⟩
end Go.Proofs.Ytjdkamhnbheofaa.P

-- squeezed
