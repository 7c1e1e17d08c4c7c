-- written by mk.sh, a program of this session, over the kit's print
import Derived.Test.YtjdkamhnbheofaaGpPx0
import Derived.Test.YtjdkamhnbheofaaGpPx7
import Derived.Test.YtjdkamhnbheofaaGpPx13
import Derived.Test.YtjdkamhnbheofaaGpPx14
namespace Go.Proofs.Ytjdkamhnbheofaa.P
open Go.RowKit Go.Proofs.YtjdkamhnbheofaaW.PrintWords Go.Proofs.YtjdkamhnbheofaaW.PrintLast Go.Proofs.YtjdkamhnbheofaaW.PrintMore
attribute [local go_sem] max2_int min2_int max_two min_two max_three min_three max_four min_four   -- for this text's walks alone
set_option linter.unusedVariables false
set_option linter.unusedSimpArgs false

mutual
def r3_Roots.j0 : Nat → List Int → Int → Bool → Int → Int → Option (List Int × Int)
 | 0, _, _, _, _, _ => none
 | k + 1, x1, x6, x19, x617000, x617001 => if x19 = true then (r3_Roots.j1 k x1 20 x617000 x617001) else (r3_Roots.j1 k x1 x6 x617000 x617001)
def r3_Roots.j1 : Nat → List Int → Int → Int → Int → Option (List Int × Int)
 | 0, _, _, _, _ => none
 | k + 1, x1, x6, x617000, x617001 => if x6 = 0 then (r3_Roots.l0 k x1 ([] : List Int) 0 x617000 x617001) else (some (([] : List Int), x6))
def r3_Roots.l0 : Nat → List Int → List Int → Int → Int → Int → Option (List Int × Int)
 | 0, _, _, _, _, _ => none
 | k + 1, x1, x7, x8, x617000, x617001 => (r3_Size.f x617000 x617001).bind fun t621 => (if x8 < t621 then ((r3_value.f k x617000 x617001 x1 ((x8) % 256)).bind fun t622 => (if t622 = 0 then (if x7.length < 140737488355328 then (r3_Roots.l0 k x1 (x7 ++ [(x8) % 256]) (wrap64 (x8 + 1)) x617000 x617001) else (none)) else (r3_Roots.l0 k x1 x7 (wrap64 (x8 + 1)) x617000 x617001))) else (some (x7, 0)))
end
def r3_Roots.f (k : Nat) (a0_0 : Int) (a0_1 : Int) (l1 : List Int) : Option (List Int × Int) := (r3_wrong.f k a0_0 a0_1 l1 ([] : List Int)).bind fun t617 => (if t617 = 0 then ((r3_Trim.f k l1).bind fun t618 => (r3_Roots.j0 k l1 t617 ((t618.length : Int) == 0) a0_0 a0_1)) else (r3_Roots.j0 k l1 t617 false a0_0 a0_1))
theorem r3_Roots.mono_l : ∀ k, (∀ y0 y1 y2 y3 y4, LeO (r3_Roots.j0 k y0 y1 y2 y3 y4) (r3_Roots.j0 (k + 1) y0 y1 y2 y3 y4)) ∧ (∀ y0 y1 y2 y3, LeO (r3_Roots.j1 k y0 y1 y2 y3) (r3_Roots.j1 (k + 1) y0 y1 y2 y3)) ∧ (∀ y0 y1 y2 y3 y4, LeO (r3_Roots.l0 k y0 y1 y2 y3 y4) (r3_Roots.l0 (k + 1) y0 y1 y2 y3 y4))
 | 0 => ⟨fun _ _ _ _ _ r h => by simp [r3_Roots.j0] at h, fun _ _ _ _ r h => by simp [r3_Roots.j1] at h, fun _ _ _ _ _ r h => by simp [r3_Roots.l0] at h⟩
 | k + 1 => by
  obtain ⟨ih0, ih1, ih2⟩ := r3_Roots.mono_l k
  refine ⟨?_, ?_, ?_⟩
  ·intro y0 y1 y2 y3 y4
   unfold r3_Roots.j0
   repeat' first
   | (with_reducible exact ih0 _ _ _ _ _)
   | (with_reducible exact ih1 _ _ _ _)
   | (with_reducible exact ih2 _ _ _ _ _)
   | (with_reducible exact r3_Trim.mono _ _)
   | (with_reducible exact r3_value.mono _ _ _ _ _)
   | (with_reducible exact r3_wrong.mono _ _ _ _ _)
   | (with_reducible exact LeO.refl _)
   | (with_reducible exact LeO.none _)
   | (with_reducible refine LeO.ite ?_ ?_)
   | (with_reducible refine LeO.bind ?_ (fun _ => ?_))
  ·intro y0 y1 y2 y3
   unfold r3_Roots.j1
   repeat' first
   | (with_reducible exact ih0 _ _ _ _ _)
   | (with_reducible exact ih1 _ _ _ _)
   | (with_reducible exact ih2 _ _ _ _ _)
   | (with_reducible exact r3_Trim.mono _ _)
   | (with_reducible exact r3_value.mono _ _ _ _ _)
   | (with_reducible exact r3_wrong.mono _ _ _ _ _)
   | (with_reducible exact LeO.refl _)
   | (with_reducible exact LeO.none _)
   | (with_reducible refine LeO.ite ?_ ?_)
   | (with_reducible refine LeO.bind ?_ (fun _ => ?_))
  ·intro y0 y1 y2 y3 y4
   unfold r3_Roots.l0
   repeat' first
   | (with_reducible exact ih0 _ _ _ _ _)
   | (with_reducible exact ih1 _ _ _ _)
   | (with_reducible exact ih2 _ _ _ _ _)
   | (with_reducible exact r3_Trim.mono _ _)
   | (with_reducible exact r3_value.mono _ _ _ _ _)
   | (with_reducible exact r3_wrong.mono _ _ _ _ _)
   | (with_reducible exact LeO.refl _)
   | (with_reducible exact LeO.none _)
   | (with_reducible refine LeO.ite ?_ ?_)
   | (with_reducible refine LeO.bind ?_ (fun _ => ?_))
theorem r3_Roots.mono : ∀ a0 a1 a2 k, LeO (r3_Roots.f k a0 a1 a2) (r3_Roots.f (k + 1) a0 a1 a2) := by
 intro a0 a1 a2 k
 obtain ⟨ih0, ih1, ih2⟩ := r3_Roots.mono_l k
 unfold r3_Roots.f
 repeat' first
   | (with_reducible exact ih0 _ _ _ _ _)
   | (with_reducible exact ih1 _ _ _ _)
   | (with_reducible exact ih2 _ _ _ _ _)
   | (with_reducible exact r3_Trim.mono _ _)
   | (with_reducible exact r3_value.mono _ _ _ _ _)
   | (with_reducible exact r3_wrong.mono _ _ _ _ _)
   | (with_reducible exact LeO.refl _)
   | (with_reducible exact LeO.none _)
   | (with_reducible refine LeO.ite ?_ ?_)
   | (with_reducible refine LeO.bind ?_ (fun _ => ?_))
set_option maxHeartbeats 8000000 in
set_option maxRecDepth 100000 in
theorem r3_Roots.calls (k : Nat) (a0_0 : Int) (a0_1 : Int) (A1 : Option Addr) (c1 : Nat) (l1 : List Int) (r1 : List Int) (r2 : Int) (w : World) (hr1 : Kd.C (Kd.int .u8) w A1 l1.length l1) (hc1 : l1.length ≤ c1) (h : r3_Roots.f k a0_0 a0_1 l1 = some (r1, r2)) :
  Calls Try.prog 32 #[.agg #[.int .i64 a0_0, .int .u64 a0_1], .slice A1 l1.length c1] w fun e w' => ∃ v0_ : Value, e = .returned (.tuple #[v0_, .int .i64 r2]) ∧ Kd.R (Kd.int .u8) 5 w' w.heap.size (fun _ => True) v0_ r1 ∧ Below w.heap.size w w' := by
 have hu24 := Try.underlying24
 have HR1 := Aside0.mk hr1
 have HC1 := Aside0.mk hc1
 clear hr1 hc1
 have HB := aK (Below.refl w.heap.size w)
 have H : ((r3_wrong.f k a0_0 a0_1 l1 ([] : List Int)).bind fun t617 => (if t617 = 0 then ((r3_Trim.f k l1).bind fun t618 => (r3_Roots.j0 k l1 t617 ((t618.length : Int) == 0) a0_0 a0_1)) else (r3_Roots.j0 k l1 t617 false a0_0 a0_1))) = some (r1, r2) := h
 clear h
 replace H := Option.bind_eq_some_iff.mp H
 obtain ⟨t617, A30, H⟩ := H
 try dsimp only at H
 have A3 := Aside0.mk A30
 clear A30
 have HC4 := Aside0.mk H
 clear H
 go_enter Try.func32, Try.ntmps32
 go_upto_region 2 with (first | ((with_reducible refine gate_dst (N := 2) rfl ?_); (try (refine gate_guard (by rfl) ?_; dsimp only)); refine box_event ?hg (N := 2) ?hd (cs := #[.int .i64 a0_0, .int .u64 a0_1]) (t := 24) ?hr ?_; (case hd => rfl); (case hg => rfl); (case hr => first | (go_simp; done) | (go_simp; rfl)); intro gb616 hg w5 hbox hb; have n0_ := aK (below_step (mvh HB.out) hb); have n1_ := aK (hbox); have n2_ := aK ((by rw [hg]; exact (below_size (mvh HB.out)) : w.heap.size ≤ gb616)); have n3_ := aK ((by rw [hg]; exact (below_size (mvh HB.out)) : w.heap.size ≤ gb616)); clear HB; have HB := n0_; have BK616 := n1_; have GW616 := n2_; have GE616 := n3_; clear n0_ n1_ n2_ n3_; clear hb hbox hg; obtain ⟨hcz6_0, hcz6_1, hfz6_0, hfz6_1⟩ := cf2 BK616.out) | (go_at_call 45; (refine (r3_wrong.calls k a0_0 a0_1 _ _ l1 _ _ ([] : List Int) t617 _ ?side1 ?side2 ?side3 ?side4 A3.out).mono ?_); (case side1 => exact mvC (Kd.C_below HR1.out HB.out)); (case side2 => exact HC1.out); (case side3 => exact Kd.C_nil _ _); (case side4 => exact Nat.le_refl _); rintro e w7 ⟨rfl, hb⟩; have n0_ := aK (kb BK616.out hb); have n1_ := aK (below_step (mvh HB.out) hb); clear BK616 HB; have BK616 := n0_; have HB := n1_; clear n0_ n1_; (try clear hb)))
 (try simp only [Act.put, List.setIfInBounds_toArray, List.set_cons_zero, List.set_cons_succ])
 go_cut [19] (fun v19 wc => ∃ (kq : Nat) (x19_3 : Bool), v19 = .bool x19_3 ∧ Aside0 (r3_Roots.j0 kq l1 t617 x19_3 a0_0 a0_1 = some (r1, r2)) ∧ Aside0 (kq ≤ k) ∧ Aside0 (wc.heap[gb616]? = some (.cells #[.int .i64 a0_0, .int .u64 a0_1] 24 (0, 0))) ∧ Aside0 (Below w.heap.size w wc))
 case first =>
  have H := HC4.out
  clear HC4
  by_cases c8 : t617 = 0
  rotate_left
  ·rw [if_neg c8] at H
   have c8b0 : (t617 == 0) = false := beq_eq_false_iff_ne.mpr c8
   have c8b1 : (t617 != 0) = true := bne_iff_ne.mpr c8
   (first | rw [c8b0] | (simp only [i64_w, i32_w]; rw [c8b0]) | rw [c8b1] | skip)
   have H' := Aside0.mk H
   clear H
   go_wp2
   go_meet
   case rel => exact ⟨_, (false), (by first | rfl | (simp; done) | (simp [*]; done) | (simp [wrap64]; done)), H', ⟨by first | omega | exact Nat.le_refl _⟩, ⟨mvb BK616.out⟩, ⟨mvh HB.out⟩⟩
  rw [if_pos c8] at H
  have c8b0 : (t617 == 0) = true := beq_iff_eq.mpr c8
  have c8b1 : (t617 != 0) = false := bne_eq_false_iff_eq.mpr c8
  clear c8
  (first | rw [c8b0] | (simp only [i64_w, i32_w]; rw [c8b0]) | rw [c8b1] | skip)
  replace H := Option.bind_eq_some_iff.mp H
  obtain ⟨t618, A90, H⟩ := H
  try dsimp only at H
  have A9 := Aside0.mk A90
  clear A90
  have H' := Aside0.mk H
  clear H
  go_wp2_with (first | (go_at_call 16; (with_reducible refine (r3_Trim.calls k (fun k_ => k_ < w.heap.size) _ _ l1 t618 _ ?side1 A9.out).mono ?_); (case side1 => exact Kd.V_mk HC1.out (Kd.F_below (Kd.C_F (Kd.heap_int .u8) HR1.out) (mvh HB.out))); rintro e w10 ⟨v619, rfl, ho0, hb⟩; have n0_ := aK (Kd.R_lower (Kd.R_mono (ok' := fun k_ => True) ho0 (fun _ hk_ => trivial)) (below_size (mvh HB.out))); have n1_ := aK (kb BK616.out hb); have n2_ := aK (below_step (mvh HB.out) hb); clear BK616 HB; have HO620 := n0_; have BK616 := n1_; have HB := n2_; clear n0_ n1_ n2_; (try clear hb); (try clear ho0); obtain ⟨Ao11, co11, eo11⟩ := Kd.R_slice HO620.out; subst eo11))
  go_meet
  case rel => exact ⟨_, (((t618.length : Int) == 0)), (by first | rfl | (simp; done) | (simp [*]; done) | (simp [wrap64]; done)), H', ⟨by first | omega | exact Nat.le_refl _⟩, ⟨mvb BK616.out⟩, ⟨mvh HB.out⟩⟩
 case rest =>
  clear HC4
  (try clear c1); (try clear p2); (try clear c3); (try clear c4); (try clear p6); (try clear c8); (try clear c8b0); (try clear c8b1); (try clear hcz6_0); (try clear hcz6_1); (try clear hfz6_0); (try clear hfz6_1)
  obtain ⟨kq, x19_3, rfl, HA, HJ3, BK616, HB⟩ := hcut
  cases kq with
  | zero => exact absurd HA.out (by simp [r3_Roots.j0])
  | succ kj3 =>
   have H := HA.out
   clear HA
   simp only [r3_Roots.j0] at H
   have HC12 := Aside0.mk H
   clear H
   go_upto_if 19 with (fail)
   go_cut [6] (fun v6 wc => ∃ (kq : Nat) (x6_11 : Int), v6 = .int .i64 x6_11 ∧ Aside0 (r3_Roots.j1 kq l1 x6_11 a0_0 a0_1 = some (r1, r2)) ∧ Aside0 (kq ≤ kj3) ∧ Aside0 (wc.heap[gb616]? = some (.cells #[.int .i64 a0_0, .int .u64 a0_1] 24 (0, 0))) ∧ Aside0 (Below w.heap.size w wc))
   case first =>
    have H := HC12.out
    clear HC12
    by_cases c13 : x19_3 = true
    ·subst c13
     have H1 : (r3_Roots.j1 kj3 l1 20 a0_0 a0_1) = some (r1, r2) := by rw [if_pos rfl] at H; exact H
     clear H
     have H := H1
     clear H1
     have H' := Aside0.mk H
     clear H
     go_wp2
     go_meet
     case rel => exact ⟨_, (20), (by first | rfl | (simp; done) | (simp [*]; done) | (simp [wrap64]; done)), H', ⟨by have := HJ3.out; first | omega | exact Nat.le_refl _⟩, ⟨mvb BK616.out⟩, ⟨mvh HB.out⟩⟩
    ·replace c13 := Bool.eq_false_iff.mpr c13
     subst c13
     have H1 : (r3_Roots.j1 kj3 l1 t617 a0_0 a0_1) = some (r1, r2) := by rw [if_neg (show ¬ (false = true) by decide)] at H; exact H
     clear H
     have H := H1
     clear H1
     have H' := Aside0.mk H
     clear H
     go_wp2
     go_meet
     case rel => exact ⟨_, (t617), (by first | rfl | (simp; done) | (simp [*]; done) | (simp [wrap64]; done)), H', ⟨by have := HJ3.out; first | omega | exact Nat.le_refl _⟩, ⟨mvb BK616.out⟩, ⟨mvh HB.out⟩⟩
   case rest =>
    clear HC12
    (try clear c1); (try clear p2); (try clear c3); (try clear c4); (try clear p6); (try clear c8); (try clear c8b0); (try clear c8b1); (try clear c13); (try clear hcz6_0); (try clear hcz6_1); (try clear hfz6_0); (try clear hfz6_1); (try clear p2); (try clear p6)
    obtain ⟨kq, x6_11, rfl, HA, HJ11, BK616, HB⟩ := hcut
    cases kq with
    | zero => exact absurd HA.out (by simp [r3_Roots.j1])
    | succ kj11 =>
     have H := HA.out
     clear HA
     simp only [r3_Roots.j1] at H
     by_cases c14 : x6_11 = 0
     rotate_left
     ·rw [if_neg c14] at H
      have c14b0 : (x6_11 == 0) = false := beq_eq_false_iff_ne.mpr c14
      have c14b1 : (x6_11 != 0) = true := bne_iff_ne.mpr c14
      simp only [Option.some.injEq, Prod.mk.injEq] at H
      obtain ⟨rfl, rfl⟩ := H
      go_wp2
      go_ret2
      exact ⟨_, by first | rfl | (simp [errW_none, errW_some] <;> rfl) | (simp [*, errW_none, errW_some] <;> rfl), by first | exact Kd.R_nil _ _ _ _ _ | exact Kd.N_nil _ _ _ _ _ | exact Kd.V_nil _ _ _ _ _ | exact Kd.Q_nil _ _ _ _ _ | exact Kd.S_nil _ _ _ _ _, mvh HB.out⟩

     rw [if_pos c14] at H
     have c14b0 : (x6_11 == 0) = true := beq_iff_eq.mpr c14
     have c14b1 : (x6_11 != 0) = false := bne_eq_false_iff_eq.mpr c14
     clear c14
     have H' := Aside0.mk H
     clear H
     go_wp2
     go_loopg [7, 8] kj11 (fun kq v7 v8 w' => ∃ (x7_3 : List Int) (x8_3 : Int), v8 = .int .i64 x8_3 ∧ Aside0 (r3_Roots.l0 kq l1 x7_3 x8_3 a0_0 a0_1 = some (r1, r2)) ∧ Aside0 (kq ≤ kj11) ∧ Aside0 (Kd.R (Kd.int .u8) 5 w' w.heap.size (fun _ => True) v7 x7_3) ∧ Aside0 (w'.heap[gb616]? = some (.cells #[.int .i64 a0_0, .int .u64 a0_1] 24 (0, 0))) ∧ Aside0 (Below w.heap.size w w'))
     case atStart => exact ⟨(([] : List Int)), (0), (by first | rfl | (simp; done) | (simp [*]; done) | (simp [wrap64]; done)), H', ⟨Nat.le_refl _⟩, ⟨by first | exact Kd.R_nil _ _ _ _ _ | exact Kd.N_nil _ _ _ _ _ | exact Kd.V_nil _ _ _ _ _ | exact Kd.Q_nil _ _ _ _ _ | exact Kd.S_nil _ _ _ _ _⟩, ⟨mvb BK616.out⟩, ⟨mvh HB.out⟩⟩
     case round =>
      clear H'
      (try clear c1); (try clear p2); (try clear c3); (try clear c4); (try clear p6); (try clear c8); (try clear c8b0); (try clear c8b1); (try clear c13); (try clear c14); (try clear c14b0); (try clear c14b1); (try clear hcz6_0); (try clear hcz6_1); (try clear hfz6_0); (try clear hfz6_1); (try clear p2)
      try clear p6
      obtain ⟨x7_3, x8_3, rfl, HA, HK3, HO_7, BK616, HB⟩ := hrel
      cases gk with
      | zero => exact absurd HA.out (by simp [r3_Roots.l0])
      | succ k3 =>
       have H := HA.out
       clear HA
       simp only [r3_Roots.l0] at H
       replace H := Option.bind_eq_some_iff.mp H
       obtain ⟨t621, A150, H⟩ := H
       try dsimp only at H
       have A15 := Aside0.mk A150
       clear A150
       by_cases c16 : x8_3 < t621
       rotate_left
       ·rw [if_neg c16] at H
        have c16b0 : decide (x8_3 < t621) = false := decide_eq_false c16
        clear c16
        simp only [Option.some.injEq, Prod.mk.injEq] at H
        obtain ⟨rfl, rfl⟩ := H
        obtain ⟨hcz29_0, hcz29_1, hfz29_0, hfz29_1⟩ := cf2 BK616.out
        go_wp2_with (first | (go_at_call 34; (with_reducible refine (r3_Size.calls a0_0 a0_1 t621 _ A15.out).mono ?_); rintro e w30 ⟨rfl, hb⟩; have n0_ := aK (Kd.R_below (mvR HO_7.out) hb); have n1_ := aK (kb BK616.out hb); have n2_ := aK (below_step (mvh HB.out) hb); clear HO_7 BK616 HB; have HO_7 := n0_; have BK616 := n1_; have HB := n2_; clear n0_ n1_ n2_; (try clear hb)))
        go_ret2
        exact ⟨_, by first | rfl | (simp [errW_none, errW_some] <;> rfl) | (simp [*, errW_none, errW_some] <;> rfl), by (with_reducible repeat (first | apply Kd.R_alloc | apply Kd.R_drewN | apply Kd.R_drew)); exact HO_7.out, mvh HB.out⟩
       rw [if_pos c16] at H
       have c16b0 : decide (x8_3 < t621) = true := decide_eq_true c16
       clear c16
       replace H := Option.bind_eq_some_iff.mp H
       obtain ⟨t622, A170, H⟩ := H
       try dsimp only at H
       have A17 := Aside0.mk A170
       clear A170
       by_cases c18 : t622 = 0
       rotate_left
       ·rw [if_neg c18] at H
        have c18b0 : (t622 == 0) = false := beq_eq_false_iff_ne.mpr c18
        have c18b1 : (t622 != 0) = true := bne_iff_ne.mpr c18
        have H' := Aside0.mk H
        clear H
        obtain ⟨hcz25_0, hcz25_1, hfz25_0, hfz25_1⟩ := cf2 BK616.out
        go_wp2_with (first | (go_at_call 34; (with_reducible refine (r3_Size.calls a0_0 a0_1 t621 _ A15.out).mono ?_); rintro e w26 ⟨rfl, hb⟩; have n0_ := aK (Kd.R_below (mvR HO_7.out) hb); have n1_ := aK (kb BK616.out hb); have n2_ := aK (below_step (mvh HB.out) hb); clear HO_7 BK616 HB; have HO_7 := n0_; have BK616 := n1_; have HB := n2_; clear n0_ n1_ n2_; (try clear hb); obtain ⟨hcz27_0, hcz27_1, hfz27_0, hfz27_1⟩ := cf2 BK616.out) | (go_at_call 46; (with_reducible refine (r3_value.calls k3 a0_0 a0_1 _ _ l1 ((x8_3) % 256) t622 _ ?side1 ?side2 A17.out).mono ?_); (case side1 => exact mvC (Kd.C_below HR1.out HB.out)); (case side2 => exact HC1.out); rintro e w28 ⟨rfl, hb⟩; have n0_ := aK (Kd.R_below (mvR HO_7.out) hb); have n1_ := aK (kb BK616.out hb); have n2_ := aK (below_step (mvh HB.out) hb); clear HO_7 BK616 HB; have HO_7 := n0_; have BK616 := n1_; have HB := n2_; clear n0_ n1_ n2_; (try clear hb)))
        go_roundg k3
        case measure => have := HJ3.out; have := HJ11.out; have := HK3.out; omega
        case rel => exact ⟨(x7_3), (wrap64 (x8_3 + 1)), (by first | rfl | (simp; done) | (simp [*]; done) | (simp [wrap64]; done)), H', ⟨by have := HJ3.out; have := HJ11.out; have := HK3.out; omega⟩, ⟨mvR HO_7.out⟩, ⟨mvb BK616.out⟩, ⟨mvh HB.out⟩⟩
       rw [if_pos c18] at H
       have c18b0 : (t622 == 0) = true := beq_iff_eq.mpr c18
       have c18b1 : (t622 != 0) = false := bne_eq_false_iff_eq.mpr c18
       clear c18
       by_cases c19 : x7_3.length < 140737488355328
       rotate_left
       ·rw [if_neg c19] at H
        exact absurd H (by simp)
       rw [if_pos c19] at H
       have LMc19 := Aside0.mk c19
       clear c19
       obtain ⟨y623, hy623⟩ : ∃ y_ : List Int, y_ = (x7_3 ++ [(x8_3) % 256]) := ⟨_, rfl⟩
       replace H : (r3_Roots.l0 k3 l1 y623 (wrap64 (x8_3 + 1)) a0_0 a0_1) = some (r1, r2) := by rw [hy623]; exact H
       have Ny623 := Aside0.mk hy623
       clear hy623
       have H' := Aside0.mk H
       clear H
       obtain ⟨hcz20_0, hcz20_1, hfz20_0, hfz20_1⟩ := cf2 BK616.out
       go_wp2_with (first | (go_at_call 34; (with_reducible refine (r3_Size.calls a0_0 a0_1 t621 _ A15.out).mono ?_); rintro e w21 ⟨rfl, hb⟩; have n0_ := aK (Kd.R_below (mvR HO_7.out) hb); have n1_ := aK (kb BK616.out hb); have n2_ := aK (below_step (mvh HB.out) hb); clear HO_7 BK616 HB; have HO_7 := n0_; have BK616 := n1_; have HB := n2_; clear n0_ n1_ n2_; (try clear hb); obtain ⟨hcz22_0, hcz22_1, hfz22_0, hfz22_1⟩ := cf2 BK616.out) | (go_at_call 46; (with_reducible refine (r3_value.calls k3 a0_0 a0_1 _ _ l1 ((x8_3) % 256) t622 _ ?side1 ?side2 A17.out).mono ?_); (case side1 => exact mvC (Kd.C_below HR1.out HB.out)); (case side2 => exact HC1.out); rintro e w23 ⟨rfl, hb⟩; have n0_ := aK (Kd.R_below (mvR HO_7.out) hb); have n1_ := aK (kb BK616.out hb); have n2_ := aK (below_step (mvh HB.out) hb); clear HO_7 BK616 HB; have HO_7 := n0_; have BK616 := n1_; have HB := n2_; clear n0_ n1_ n2_; (try clear hb)) | ((with_reducible refine gate_builtin (b := .append) (xs := #[.tmp 35, .tmp 38]) rfl ?_); (try (refine gate_guard (by rfl) ?_; dsimp only)); at_builtin; refine Kd.R_append (Kd.int .u8) (w0 := w) w.heap.size rfl (.tmp 35) (.tmp 38) 25 5 (.int .u8 0) 1 rfl Try.underlying25 info5 rfl (by decide) (by omega) u7 x7_3 ((x8_3) % 256) [.int .u8 ((x8_3) % 256)] (fun _ => True) (fun _ => False) rfl rfl ?aP (fun _ hk => hk.elim) ?aF ?aO ?aB ?aS ?aL ?_; (case aP => exact rfl); (case aB => exact (mvh HB.out)); (case aF => exact (fun _ _ => trivial)); (case aO => exact (mvR HO_7.out)); (case aS => exact (below_size (mvh HB.out))); (case aL => have := LMc19.out; omega); intro v624 w24 ho hb hg hat; rw [← Ny623.out] at ho; have n0_ := aK (blk_grown (g := gb616) (o := .cells #[.int .i64 a0_0, .int .u64 a0_1] 24 (0, 0)) (mvb BK616.out) hg (Kd.R_ne HO_7.out BK616.out (by decide))); have n1_ := aK (hb); have n2_ := aK (ho); clear BK616 HB HO_7; have BK616 := n0_; have HB := n1_; have HO625 := n2_; clear n0_ n1_ n2_; clear ho hb hg hat))
       go_roundg k3
       case measure => have := HJ3.out; have := HJ11.out; have := HK3.out; omega
       case rel => exact ⟨(y623), (wrap64 (x8_3 + 1)), (by first | rfl | (simp; done) | (simp [*]; done) | (simp [wrap64]; done)), H', ⟨by have := HJ3.out; have := HJ11.out; have := HK3.out; omega⟩, ⟨mvR HO625.out⟩, ⟨mvb BK616.out⟩, ⟨mvh HB.out⟩⟩
-- NOT PRINTED: function 5 (l3_GaloisPolys)

-- NOT PRINTED: function 6 (l3_GaloisRoots)


end Go.Proofs.Ytjdkamhnbheofaa.P

-- squeezed
