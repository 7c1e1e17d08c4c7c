-- written by mk.sh, a program of this session, over the kit's print
import Derived.Test.YtlmhppgplbefcaaGnPx0
import Derived.Test.YtlmhppgplbefcaaGnPx1
namespace Go.Proofs.Ytlmhppgplbefcaa.P
open Go.RowKit Go.Proofs.YtlmhppgplbefcaaW.PrintWords Go.Proofs.YtlmhppgplbefcaaW.PrintLast Go.Proofs.YtlmhppgplbefcaaW.PrintMore
attribute [local go_sem] max2_int min2_int max_two min_two max_three min_three max_four min_four   -- for this text's walks alone
set_option linter.unusedVariables false
set_option linter.unusedSimpArgs false

/-! ### galois_Tables_times: function 69 -/
mutual
def galois_Tables_times.j0 : Nat → GTab → List Int → List Int → Bool → Option (List Int)
  | 0, _, _, _, _ => none
  | k + 1, x0, x1, x2, x19 => if x19 = true then (some ([] : List Int)) else (if 0 ≤ (wrap64 ((wrap64 ((x1.length : Int) + (x2.length : Int))) - 1)) then (if (wrap64 ((wrap64 ((x1.length : Int) + (x2.length : Int))) - 1) : Int).toNat ≤ 281474976710656 then (galois_Tables_times.l0 k x0 x2 (List.replicate (wrap64 ((wrap64 ((x1.length : Int) + (x2.length : Int))) - 1) : Int).toNat 0) x1 (x1.length : Int) 0) else (none)) else (none))
def galois_Tables_times.l0 : Nat → GTab → List Int → List Int → List Int → Int → Int → Option (List Int)
  | 0, _, _, _, _, _, _ => none
  | k + 1, x0, x2, x7, x27, x28, x29 => if x29 < x28 then (if 0 ≤ x29 then (if x29 < (x27.length : Int) then (galois_Tables_times.l1 k x0 x2 x7 x29 (rd x27 x29) x27 x28 x29 x2 (x2.length : Int) 0) else (none)) else (none)) else ((galois_trim.f x7).bind fun t119 => (some t119))
def galois_Tables_times.l1 : Nat → GTab → List Int → List Int → Int → Int → List Int → Int → Int → List Int → Int → Int → Option (List Int)
  | 0, _, _, _, _, _, _, _, _, _, _, _ => none
  | k + 1, x0, x2, x7, x8, x9, x27, x28, x29, x34, x35, x36 => if x36 < x35 then (if 0 ≤ x36 then (if x36 < (x34.length : Int) then (if 0 ≤ (wrap64 (x8 + x36)) then (if (wrap64 (x8 + x36)) < (x7.length : Int) then (if 0 < x0.size then ((galois_New_1.f x0 x9 (rd x34 x36)).bind fun t125 => (galois_Tables_times.l1 k x0 x2 (x7.set ((wrap64 (x8 + x36)) : Int).toNat (Go.bits .xor .u8 (rd x7 (wrap64 (x8 + x36))) t125)) x8 x9 x27 x28 x29 x34 x35 (wrap64 (x36 + 1)))) else (none)) else (none)) else (none)) else (none)) else (none)) else (galois_Tables_times.l0 k x0 x2 x7 x27 x28 (wrap64 (x29 + 1)))
end
def galois_Tables_times.f (k : Nat) (a0 : GTab) (l1 : List Int) (l2 : List Int) : Option (List Int) := if (l1.length : Int) = 0 then (galois_Tables_times.j0 k a0 l1 l2 true) else (galois_Tables_times.j0 k a0 l1 l2 ((l2.length : Int) == 0))
theorem galois_Tables_times.mono_l : ∀ k, (∀ y0 y1 y2 y3, LeO (galois_Tables_times.j0 k y0 y1 y2 y3) (galois_Tables_times.j0 (k + 1) y0 y1 y2 y3)) ∧ (∀ y0 y1 y2 y3 y4 y5, LeO (galois_Tables_times.l0 k y0 y1 y2 y3 y4 y5) (galois_Tables_times.l0 (k + 1) y0 y1 y2 y3 y4 y5)) ∧ (∀ y0 y1 y2 y3 y4 y5 y6 y7 y8 y9 y10, LeO (galois_Tables_times.l1 k y0 y1 y2 y3 y4 y5 y6 y7 y8 y9 y10) (galois_Tables_times.l1 (k + 1) y0 y1 y2 y3 y4 y5 y6 y7 y8 y9 y10))
  | 0 => ⟨fun _ _ _ _ r h => by simp [galois_Tables_times.j0] at h, fun _ _ _ _ _ _ r h => by simp [galois_Tables_times.l0] at h, fun _ _ _ _ _ _ _ _ _ _ _ r h => by simp [galois_Tables_times.l1] at h⟩
  | k + 1 => by
    obtain ⟨ih0, ih1, ih2⟩ := galois_Tables_times.mono_l k
    refine ⟨?_, ?_, ?_⟩
    · intro y0 y1 y2 y3
      unfold galois_Tables_times.j0
      repeat' first
      | (with_reducible exact ih0 _ _ _ _)
      | (with_reducible exact ih1 _ _ _ _ _ _)
      | (with_reducible exact ih2 _ _ _ _ _ _ _ _ _ _ _)
      | (with_reducible exact LeO.refl _)
      | (with_reducible exact LeO.none _)
      | (with_reducible refine LeO.ite ?_ ?_)
      | (with_reducible refine LeO.bind ?_ (fun _ => ?_))
      | exact ih0 _ _ _ _
      | exact ih1 _ _ _ _ _ _
      | exact ih2 _ _ _ _ _ _ _ _ _ _ _
      | exact LeO.none _
      | refine LeO.ite ?_ ?_
      | refine LeO.bind ?_ (fun _ => ?_)
    · intro y0 y1 y2 y3 y4 y5
      unfold galois_Tables_times.l0
      repeat' first
      | (with_reducible exact ih0 _ _ _ _)
      | (with_reducible exact ih1 _ _ _ _ _ _)
      | (with_reducible exact ih2 _ _ _ _ _ _ _ _ _ _ _)
      | (with_reducible exact LeO.refl _)
      | (with_reducible exact LeO.none _)
      | (with_reducible refine LeO.ite ?_ ?_)
      | (with_reducible refine LeO.bind ?_ (fun _ => ?_))
      | exact ih0 _ _ _ _
      | exact ih1 _ _ _ _ _ _
      | exact ih2 _ _ _ _ _ _ _ _ _ _ _
      | exact LeO.none _
      | refine LeO.ite ?_ ?_
      | refine LeO.bind ?_ (fun _ => ?_)
    · intro y0 y1 y2 y3 y4 y5 y6 y7 y8 y9 y10
      unfold galois_Tables_times.l1
      repeat' first
      | (with_reducible exact ih0 _ _ _ _)
      | (with_reducible exact ih1 _ _ _ _ _ _)
      | (with_reducible exact ih2 _ _ _ _ _ _ _ _ _ _ _)
      | (with_reducible exact LeO.refl _)
      | (with_reducible exact LeO.none _)
      | (with_reducible refine LeO.ite ?_ ?_)
      | (with_reducible refine LeO.bind ?_ (fun _ => ?_))
      | exact ih0 _ _ _ _
      | exact ih1 _ _ _ _ _ _
      | exact ih2 _ _ _ _ _ _ _ _ _ _ _
      | exact LeO.none _
      | refine LeO.ite ?_ ?_
      | refine LeO.bind ?_ (fun _ => ?_)
theorem galois_Tables_times.mono : ∀ a0 a1 a2 k, LeO (galois_Tables_times.f k a0 a1 a2) (galois_Tables_times.f (k + 1) a0 a1 a2) := by
  intro a0 a1 a2 k
  obtain ⟨ih0, ih1, ih2⟩ := galois_Tables_times.mono_l k
  unfold galois_Tables_times.f
  repeat' first
      | (with_reducible exact ih0 _ _ _ _)
      | (with_reducible exact ih1 _ _ _ _ _ _)
      | (with_reducible exact ih2 _ _ _ _ _ _ _ _ _ _ _)
      | (with_reducible exact LeO.refl _)
      | (with_reducible exact LeO.none _)
      | (with_reducible refine LeO.ite ?_ ?_)
      | (with_reducible refine LeO.bind ?_ (fun _ => ?_))
      | exact ih0 _ _ _ _
      | exact ih1 _ _ _ _ _ _
      | exact ih2 _ _ _ _ _ _ _ _ _ _ _
      | exact LeO.none _
      | refine LeO.ite ?_ ?_
      | refine LeO.bind ?_ (fun _ => ?_)
def galois_Tables_times.T10 : Bool × List (List Nat × List Nat) := (true, [([], []), ([], []), ([], []), ([1, 2], [1, 2]), ([0, 3], [0, 3]), ([4], [4]), ([], []), ([6], [6]), ([7], [7]), ([8], [8]), ([], []), ([], []), ([9, 10, 11], [9, 10, 11]), ([5, 12], [5, 12]), ([0, 3, 0, 1, 2, 3, 4, 5, 6, 7, 8, 9, 10, 11, 12, 13], [0, 3]), ([14, 13, 12, 0, 1, 2, 3, 4, 5, 6, 7, 8, 9, 10, 11, 12, 13], [13, 14])])
def galois_Tables_times.B10 : List Nat := [0, 0, 0, 6, 15, 31, 0, 64, 192, 448, 0, 0, 4032, 8191, 16383, 32767]
theorem galois_Tables_times.tab10 : rtab .any (opsOf Try.f69 10) = galois_Tables_times.T10 := by kernel_rfl
theorem galois_Tables_times.bits10 : waitsOk galois_Tables_times.T10.2 galois_Tables_times.B10 = true := by kernel_rfl
set_option maxHeartbeats 8000000 in
set_option maxRecDepth 100000 in
theorem galois_Tables_times.calls (k : Nat) (A0 : Option Addr) (a0 : GTab) (A1 : Option Addr) (c1 : Nat) (l1 : List Int) (A2 : Option Addr) (c2 : Nat) (l2 : List Int) (r : List Int) (w : World) (hr0 : gal_OK w A0 a0) (hr1 : Kd.C (Kd.int .u8) w A1 l1.length l1) (hc1 : l1.length ≤ c1) (hr2 : Kd.C (Kd.int .u8) w A2 l2.length l2) (hc2 : l2.length ≤ c2) (h : galois_Tables_times.f k a0 l1 l2 = some r) :
    Calls Try.prog 69 #[.pointer A0, .slice A1 l1.length c1, .slice A2 l2.length c2] w fun e w' => ∃ v0_ : Value, e = .returned (v0_) ∧ Kd.R (Kd.int .u8) 5 w' w.heap.size (fun _ => True) v0_ r ∧ Below w.heap.size w w' := by
  have HR0 := Aside0.mk hr0
  clear hr0
  have HR1 := Aside0.mk hr1
  have HC1 := Aside0.mk hc1
  clear hr1 hc1
  have HR2 := Aside0.mk hr2
  have HC2 := Aside0.mk hc2
  clear hr2 hc2
  have HB := Aside0.mk (Below.refl w.heap.size w)
  have H : (if (l1.length : Int) = 0 then (galois_Tables_times.j0 k a0 l1 l2 true) else (galois_Tables_times.j0 k a0 l1 l2 ((l2.length : Int) == 0))) = some r := h
  clear h
  have HC4 := Aside0.mk H
  clear H
  go_enter Try.func69, Try.ntmps69
  go_upto_region 1 with (fail)
  go_cut [19] (fun v19 wc => ∃ (kq : Nat) (x19_3 : Bool), v19 = .bool x19_3 ∧ Aside0 (galois_Tables_times.j0 kq a0 l1 l2 x19_3 = some r) ∧ Aside0 (kq ≤ k) ∧ Aside0 (Below w.heap.size w wc))
  case first =>
    have H := HC4.out
    clear HC4
    by_cases c5 : (l1.length : Int) = 0
    · rw [if_pos c5] at H
      have c5b0 : ((l1.length : Int) == 0) = true := beq_iff_eq.mpr c5
      have c5b1 : ((l1.length : Int) != 0) = false := bne_eq_false_iff_eq.mpr c5
      clear c5
      (first | rw [c5b0] | (simp only [i64_w, i32_w]; rw [c5b0]) | rw [c5b1] | skip)
      have H' := Aside0.mk H
      clear H
      go_wp2
      go_meet
      case rel => exact ⟨_, (true), (by first | rfl | (simp; done) | (simp [*]; done) | (simp [wrap64]; done)), H', ⟨by first | omega | exact Nat.le_refl _⟩, ⟨by repeat (first | (with_reducible first | exact HB.out | apply below_alloc | apply pw_below_drewN | apply below_drew1) | exact HB.out)⟩⟩
    · rw [if_neg c5] at H
      have c5b0 : ((l1.length : Int) == 0) = false := beq_eq_false_iff_ne.mpr c5
      have c5b1 : ((l1.length : Int) != 0) = true := bne_iff_ne.mpr c5
      have c5b2 : ¬ (l1 = []) := fun h_ => c5 (by rw [h_]; rfl)
      (first | rw [c5b0] | (simp only [i64_w, i32_w]; rw [c5b0]) | rw [c5b1] | skip)
      have H' := Aside0.mk H
      clear H
      go_wp2
      go_meet
      case rel => exact ⟨_, (((l2.length : Int) == 0)), (by first | rfl | (simp; done) | (simp [*]; done) | (simp [wrap64]; done)), H', ⟨by first | omega | exact Nat.le_refl _⟩, ⟨by repeat (first | (with_reducible first | exact HB.out | apply below_alloc | apply pw_below_drewN | apply below_drew1) | exact HB.out)⟩⟩
  case rest =>
    clear HC4
    try clear c1
    try clear c2
    try clear p2
    try clear c5
    try clear c5b0
    try clear c5b1
    try clear c5b2
    obtain ⟨kq, x19_3, rfl, HA, HJ3, HB⟩ := hcut
    cases kq with
    | zero => exact absurd HA.out (by simp [galois_Tables_times.j0])
    | succ kj3 =>
      have H := HA.out
      clear HA
      simp only [galois_Tables_times.j0] at H
      by_cases c6 : x19_3 = true
      · subst c6
        have H1 : (some ([] : List Int)) = some r := by rw [if_pos rfl] at H; exact H
        clear H
        have H := H1
        clear H1
        obtain rfl := Option.some.inj H
        go_wp2
        go_ret
        exact ⟨_, by first | rfl | (simp [errW_none, errW_some] <;> rfl) | (simp [*, errW_none, errW_some] <;> rfl), by first | exact Kd.R_nil _ _ _ _ _ | exact Kd.N_nil _ _ _ _ _ | exact Kd.V_nil _ _ _ _ _ | exact Kd.Q_nil _ _ _ _ _ | exact Kd.S_nil _ _ _ _ _, by repeat (first | (with_reducible first | exact HB.out | apply below_alloc | apply pw_below_drewN | apply below_drew1) | exact HB.out)⟩
      · replace c6 := Bool.eq_false_iff.mpr c6
        subst c6
        have H1 : (if 0 ≤ (wrap64 ((wrap64 ((l1.length : Int) + (l2.length : Int))) - 1)) then (if (wrap64 ((wrap64 ((l1.length : Int) + (l2.length : Int))) - 1) : Int).toNat ≤ 281474976710656 then (galois_Tables_times.l0 kj3 a0 l2 (List.replicate (wrap64 ((wrap64 ((l1.length : Int) + (l2.length : Int))) - 1) : Int).toNat 0) l1 (l1.length : Int) 0) else (none)) else (none)) = some r := by rw [if_neg (show ¬ (false = true) by decide)] at H; exact H
        clear H
        have H := H1
        clear H1
        obtain ⟨ji7, hji7⟩ : ∃ j_ : Int, (wrap64 ((wrap64 ((l1.length : Int) + (l2.length : Int))) - 1)) = j_ := ⟨_, rfl⟩
        replace H : (if 0 ≤ (ji7) then (if (ji7 : Int).toNat ≤ 281474976710656 then (galois_Tables_times.l0 kj3 a0 l2 (List.replicate (ji7 : Int).toNat 0) l1 (l1.length : Int) 0) else (none)) else (none)) = some r := by first | (rw [hji7] at H; exact H) | (simp only [hji7] at H ⊢; exact H)
        have hji7w : (IntKind.i64.wrap ((wrap64 ((l1.length : Int) + (l2.length : Int))) - 1)) = ji7 := (i64_w _).trans hji7
        by_cases c8 : 0 ≤ (ji7)
        · rw [if_pos c8] at H
          have c8b0 := eq_true c8
          have c8b1 : decide (0 ≤ (ji7)) = true := decide_eq_true c8
          clear c8
          by_cases c9 : (ji7 : Int).toNat ≤ 281474976710656
          · rw [if_pos c9] at H
            have c9b0 := eq_true c9
            have c9b1 : decide ((ji7 : Int).toNat ≤ 281474976710656) = true := decide_eq_true c9
            clear c9
            obtain ⟨y116, hy116⟩ : ∃ y_ : List Int, y_ = (List.replicate (ji7 : Int).toNat 0) := ⟨_, rfl⟩
            replace H : (galois_Tables_times.l0 kj3 a0 l2 y116 l1 (l1.length : Int) 0) = some r := by first | (rw [hy116]; with_reducible exact H) | (have H2_ := (Option.bind_some _ _).symm.trans H; rw [hy116]; with_reducible exact H2_) | (have H2_ := (Option.bind_some _ _).symm.trans H; with_reducible exact H2_) | with_reducible exact H | (rw [hy116]; exact H) | exact H
            have Ny116 := Aside0.mk hy116
            clear hy116
            have H' := Aside0.mk H
            clear H
            go_wp2_with (first | ((with_reducible refine gate_dst (N := 26) rfl ?_); (try (refine gate_guard (by rfl) ?_; dsimp only)); refine Kd.R_make (Kd.int .u8) _ 5 rfl (N := 26) rfl 44 _ _ rfl ji7 rfl rfl Try.underlying44 (.int .u8 0) 1 info5 rfl (by decide) (by omega) 0 (ok := fun _ => True) (okp := fun _ => True) rfl (fun _ hk => hk) trivial (of_decide_eq_true (by first | (with_reducible assumption) | assumption)) (Nat.le_trans (Nat.mul_le_mul_right _ (of_decide_eq_true (by first | (with_reducible assumption) | assumption) : ji7.toNat ≤ 281474976710656)) (by omega)) (Below.refl _ _) (Nat.le_refl _) ?_; intro v117 w10 ho11 hb hg_ hnew_; clear hg_ hnew_; (first | rw [← Ny116.out] at ho11 | (simp only [Int.reduceToNat] at ho11; rw [← Ny116.out] at ho11)); have n0_ := Aside0.mk (Kd.R_lower ho11 (below_size (by repeat (first | (with_reducible first | exact HB.out | apply below_alloc | apply pw_below_drewN | apply below_drew1) | exact HB.out)))); have n1_ := Aside0.mk (below_step (by repeat (first | (with_reducible first | exact HB.out | apply below_alloc | apply pw_below_drewN | apply below_drew1) | exact HB.out)) hb); clear HB; have HO118 := n0_; have HB := n1_; clear n0_ n1_; clear hb ho11))
            go_loopg [29] kj3 (fun kq v29 w' => ∃ (x7_2 : List Int) (x29_2 : Int), v29 = .int .i64 x29_2 ∧ Aside0 (galois_Tables_times.l0 kq a0 l2 x7_2 l1 (l1.length : Int) x29_2 = some r) ∧ Aside0 (kq ≤ kj3) ∧ Aside0 (Kd.R (Kd.int .u8) 5 w' w.heap.size (fun _ => True) v117 x7_2) ∧ Aside0 (Below w.heap.size w w'))
            case atStart => exact ⟨(y116), (0), (by first | rfl | (simp; done) | (simp [*]; done) | (simp [wrap64]; done)), H', ⟨Nat.le_refl _⟩, ⟨by (with_reducible repeat (first | apply Kd.R_alloc | apply Kd.R_drewN | apply Kd.R_drew)); exact HO118.out⟩, ⟨by repeat (first | (with_reducible first | exact HB.out | apply below_alloc | apply pw_below_drewN | apply below_drew1) | exact HB.out)⟩⟩
            case round =>
              clear H'
              try clear c1
              try clear c2
              try clear p2
              try clear c5
              try clear c5b0
              try clear c5b1
              try clear c5b2
              try clear c6
              try clear p6
              try clear c8
              try clear c8b0
              try clear c8b1
              try clear c9
              try clear c9b0
              try clear c9b1
              try clear p2
              obtain ⟨x7_2, x29_2, rfl, HA, HK2, HO_7, HB⟩ := hrel
              cases gk with
              | zero => exact absurd HA.out (by simp [galois_Tables_times.l0])
              | succ k2 =>
                have H := HA.out
                clear HA
                simp only [galois_Tables_times.l0] at H
                by_cases c12 : x29_2 < (l1.length : Int)
                · rw [if_pos c12] at H
                  have c12b0 : decide (x29_2 < (l1.length : Int)) = true := decide_eq_true c12
                  clear c12
                  by_cases c13 : 0 ≤ x29_2
                  · rw [if_pos c13] at H
                    have c13b0 : decide (0 ≤ x29_2) = true := decide_eq_true c13
                    clear c13
                    by_cases c14 : x29_2 < (l1.length : Int)
                    · rw [if_pos c14] at H
                      have c14b0 : decide (x29_2 < (l1.length : Int)) = true := decide_eq_true c14
                      clear c14
                      have H' := Aside0.mk H
                      clear H
                      have p122 : 0 ≤ (x29_2 : Int) := of_decide_eq_true (by first | (with_reducible assumption) | assumption)
                      have q122 : x29_2 < (l1.length : Int) := of_decide_eq_true (by first | (with_reducible assumption) | assumption)
                      obtain ⟨ad122, e122, hx122_0⟩ := Kd.at_int HR1.out x29_2 p122 q122
                      cases e122
                      replace hx122_0 := (HB.out.cell (World.block_lt_of_cell? w _ hx122_0)).trans hx122_0
                      replace p122 := eq_true p122
                      replace q122 := eq_true q122
                      go_wp2
                      go_loopg [36] k2 (fun kq v36 w' => ∃ (x7_3 : List Int) (x36_3 : Int), v36 = .int .i64 x36_3 ∧ Aside0 (galois_Tables_times.l1 kq a0 l2 x7_3 x29_2 (rd l1 x29_2) l1 (l1.length : Int) x29_2 l2 (l2.length : Int) x36_3 = some r) ∧ Aside0 (kq ≤ k2) ∧ Aside0 (Kd.R (Kd.int .u8) 5 w' w.heap.size (fun _ => True) v117 x7_3) ∧ Aside0 (Below w.heap.size w w'))
                      case atStart => exact ⟨(x7_2), (0), (by first | rfl | (simp; done) | (simp [*]; done) | (simp [wrap64]; done)), H', ⟨Nat.le_refl _⟩, ⟨by (with_reducible repeat (first | apply Kd.R_alloc | apply Kd.R_drewN | apply Kd.R_drew)); exact HO_7.out⟩, ⟨by repeat (first | (with_reducible first | exact HB.out | apply below_alloc | apply pw_below_drewN | apply below_drew1) | exact HB.out)⟩⟩
                      case round =>
                        clear H'
                        try clear c1
                        try clear p1
                        try clear q1
                        try clear hx1
                        try clear c2
                        try clear p2
                        try clear c5
                        try clear c5b0
                        try clear c5b1
                        try clear c5b2
                        try clear c6
                        try clear p6
                        try clear c8
                        try clear c8b0
                        try clear c8b1
                        try clear c9
                        try clear c9b0
                        try clear c9b1
                        try clear c12
                        try clear c12b0
                        try clear p12
                        try clear q12
                        try clear hx12
                        try clear c13
                        try clear c13b0
                        try clear c14
                        try clear c14b0
                        try clear hx122_0
                        try clear p122
                        try clear p2
                        try clear p6
                        try clear q122
                        obtain ⟨x7_3, x36_3, rfl, HA, HK3, HO_7, HB⟩ := hrel
                        cases gk with
                        | zero => exact absurd HA.out (by simp [galois_Tables_times.l1])
                        | succ k3 =>
                          have H := HA.out
                          clear HA
                          simp only [galois_Tables_times.l1] at H
                          by_cases c15 : x36_3 < (l2.length : Int)
                          · rw [if_pos c15] at H
                            have c15b0 : decide (x36_3 < (l2.length : Int)) = true := decide_eq_true c15
                            clear c15
                            by_cases c16 : 0 ≤ x36_3
                            · rw [if_pos c16] at H
                              have c16b0 : decide (0 ≤ x36_3) = true := decide_eq_true c16
                              clear c16
                              by_cases c17 : x36_3 < (l2.length : Int)
                              · rw [if_pos c17] at H
                                have c17b0 : decide (x36_3 < (l2.length : Int)) = true := decide_eq_true c17
                                clear c17
                                obtain ⟨ji18, hji18⟩ : ∃ j_ : Int, (wrap64 (x29_2 + x36_3)) = j_ := ⟨_, rfl⟩
                                replace H : (if 0 ≤ (ji18) then (if (ji18) < (x7_3.length : Int) then (if 0 < a0.size then ((galois_New_1.f a0 (rd l1 x29_2) (rd l2 x36_3)).bind fun t125 => (galois_Tables_times.l1 k3 a0 l2 (x7_3.set ((ji18) : Int).toNat (Go.bits .xor .u8 (rd x7_3 (ji18)) t125)) x29_2 (rd l1 x29_2) l1 (l1.length : Int) x29_2 l2 (l2.length : Int) (wrap64 (x36_3 + 1)))) else (none)) else (none)) else (none)) = some r := by first | (rw [hji18] at H; exact H) | (simp only [hji18] at H ⊢; exact H)
                                have hji18w : (IntKind.i64.wrap (x29_2 + x36_3)) = ji18 := (i64_w _).trans hji18
                                by_cases c19 : 0 ≤ (ji18)
                                · rw [if_pos c19] at H
                                  have c19b0 : decide (0 ≤ (ji18)) = true := decide_eq_true c19
                                  clear c19
                                  by_cases c20 : (ji18) < (x7_3.length : Int)
                                  · rw [if_pos c20] at H
                                    have c20b0 : decide ((ji18) < (x7_3.length : Int)) = true := decide_eq_true c20
                                    clear c20
                                    by_cases c21 : 0 < a0.size
                                    · rw [if_pos c21] at H
                                      obtain ⟨b_, p_, q_, rfl, hT_⟩ := gal_pos HR0.out c21
                                      have HT0 := Aside0.mk hT_
                                      clear hT_ c21
                                      replace H := Option.bind_eq_some_iff.mp H
                                      obtain ⟨t125, A230, H⟩ := H
                                      replace H : (galois_Tables_times.l1 k3 a0 l2 (x7_3.set ((ji18) : Int).toNat (Go.bits .xor .u8 (rd x7_3 (ji18)) t125)) x29_2 (rd l1 x29_2) l1 (l1.length : Int) x29_2 l2 (l2.length : Int) (wrap64 (x36_3 + 1))) = some r := H
                                      have A23 := Aside0.mk A230
                                      clear A230
                                      obtain ⟨y126, hy126⟩ : ∃ y_ : List Int, y_ = (x7_3.set ((ji18) : Int).toNat (Go.bits .xor .u8 (rd x7_3 (ji18)) t125)) := ⟨_, rfl⟩
                                      replace H : (galois_Tables_times.l1 k3 a0 l2 y126 x29_2 (rd l1 x29_2) l1 (l1.length : Int) x29_2 l2 (l2.length : Int) (wrap64 (x36_3 + 1))) = some r := by first | (rw [hy126]; with_reducible exact H) | (have H2_ := (Option.bind_some _ _).symm.trans H; rw [hy126]; with_reducible exact H2_) | (have H2_ := (Option.bind_some _ _).symm.trans H; with_reducible exact H2_) | with_reducible exact H | (rw [hy126]; exact H) | exact H
                                      have Ny126 := Aside0.mk hy126
                                      clear hy126
                                      have H' := Aside0.mk H
                                      clear H
                                      have p123 : 0 ≤ (x36_3 : Int) := of_decide_eq_true (by first | (with_reducible assumption) | assumption)
                                      have q123 : x36_3 < (l2.length : Int) := of_decide_eq_true (by first | (with_reducible assumption) | assumption)
                                      obtain ⟨ad123, e123, hx123_0⟩ := Kd.at_int HR2.out x36_3 p123 q123
                                      cases e123
                                      replace hx123_0 := (HB.out.cell (World.block_lt_of_cell? w _ hx123_0)).trans hx123_0
                                      replace p123 := eq_true p123
                                      replace q123 := eq_true q123
                                      try go_wp2
                                      have n0_ := Aside0.mk (Kd.R_drew HO_7.out)
                                      have n1_ := Aside0.mk (below_drew1 HB.out)
                                      clear HO_7
                                      clear HB
                                      have HO_7 := n0_
                                      have HB := n1_
                                      clear n0_ n1_
                                      obtain ⟨Ao26, co26, eo26⟩ := Kd.R_slice HO_7.out
                                      (first | subst eo26 | (injection eo26 with f1_ f2_ f3_; have f4_ := f1_.symm; have f5_ := f3_.symm; clear f1_ f2_ f3_; subst f4_; subst f5_))
                                      have p124 : 0 ≤ ((ji18) : Int) := of_decide_eq_true (by first | (with_reducible assumption) | assumption)
                                      have q124 : (ji18) < (x7_3.length : Int) := of_decide_eq_true (by first | (with_reducible assumption) | assumption)
                                      obtain ⟨ad124, e124, hx124_0⟩ := Kd.at_int (Kd.R_reads' HO_7.out).2.2 (ji18) p124 q124
                                      cases e124
                                      replace p124 := eq_true p124
                                      replace q124 := eq_true q124
                                      have ho22 := gal_At_mul HT0.out
                                      have hx22 := (HB.out.cell (World.block_lt_of_cell? w _ ho22)).trans ho22
                                      refine start_ (n := 16) (S := fun w' => w'.cell? (ad124.add ((ji18)).toNat) = some (.int .u8 (rd x7_3 (ji18))) ∧ w'.cell? ⟨b_, 513, none⟩ = some (.func (.func 91) #[] #[.pointer (some ⟨p_, 0, none⟩), .pointer (some ⟨q_, 0, none⟩)])) (ds := [15]) #[false, false, false, false, false, false, false, false, false, false, false, false, false, false, false, false] (by kernel_rfl) rfl rfl ⟨hx124_0, ((HB.out.cell (World.block_lt_of_cell? w _ ho22)).trans ho22)⟩ (fun hHeld => ?_); refine with_tabW galois_Tables_times.tab10 galois_Tables_times.bits10 (fun HT_ HW_ => ?_)
                                      generalize wr.drew = w25 at HO_7 HB hx124_0 hHeld ⊢
                                      refine pure_ (i := 0) (N := some 41) (v := ?_) (a' := ?_) #[true, false, false, false, false, false, false, false, false, false, false, false, false, false, false, false] rfl rfl (any_of HT_.out (by kernel_rfl)) (fun _ _ _ h => h) (Or.inl ⟨by rfl, ?_⟩) ?_ ?_
                                      rotate_left
                                      · intro w'
                                        go_simp
                                        with_reducible rfl
                                      rotate_left
                                      · simp only [Act.put, List.setIfInBounds_toArray, List.set_cons_zero, List.set_cons_succ, i64_w, i32_w]
                                        rfl
                                      refine pure_ (i := 1) (N := some 42) (v := ?_) (a' := ?_) #[true, true, false, false, false, false, false, false, false, false, false, false, false, false, false, false] rfl rfl (any_of HT_.out (by kernel_rfl)) (fun _ _ _ h => h) (Or.inl ⟨by rfl, ?_⟩) ?_ ?_
                                      rotate_left
                                      · intro w'
                                        go_simp
                                        with_reducible rfl
                                      rotate_left
                                      · simp only [Act.put, List.setIfInBounds_toArray, List.set_cons_zero, List.set_cons_succ, i64_w, i32_w]
                                        rfl
                                      refine pure_ (i := 2) (N := some 43) (v := ?_) (a' := ?_) #[true, true, true, false, false, false, false, false, false, false, false, false, false, false, false, false] rfl rfl (any_of HT_.out (by kernel_rfl)) (fun _ _ _ h => h) (Or.inl ⟨by rfl, ?_⟩) ?_ ?_
                                      rotate_left
                                      · intro w'
                                        go_simp
                                        with_reducible rfl
                                      rotate_left
                                      · simp only [Act.put, List.setIfInBounds_toArray, List.set_cons_zero, List.set_cons_succ, i64_w, i32_w]
                                        rfl
                                      refine pure_ (i := 3) (N := some 44) (v := ?_) (a' := ?_) #[true, true, true, true, false, false, false, false, false, false, false, false, false, false, false, false] rfl rfl (any_of HT_.out (by kernel_rfl)) (fun _ _ _ h => h) (Or.inl ⟨by rfl, ?_⟩) ?_ ?_
                                      rotate_left
                                      · intro w'
                                        go_simp
                                        with_reducible rfl
                                      rotate_left
                                      · simp only [Act.put, List.setIfInBounds_toArray, List.set_cons_zero, List.set_cons_succ, i64_w, i32_w]
                                        rfl
                                      refine pure_ (i := 4) (N := some 45) (v := ?_) (a' := ?_) #[true, true, true, true, true, false, false, false, false, false, false, false, false, false, false, false] rfl rfl (any_of HT_.out (by kernel_rfl)) (fun _ _ _ h => h) (Or.inl ⟨by rfl, ?_⟩) ?_ ?_
                                      rotate_left
                                      · intro w'
                                        go_simp
                                        with_reducible rfl
                                      rotate_left
                                      · simp only [Act.put, List.setIfInBounds_toArray, List.set_cons_zero, List.set_cons_succ, i64_w, i32_w]
                                        rfl
                                      refine pure_ (i := 6) (N := some 47) (v := ?_) (a' := ?_) #[true, true, true, true, true, false, true, false, false, false, false, false, false, false, false, false] rfl rfl (any_of HT_.out (by kernel_rfl)) (fun _ _ _ h => h) (Or.inl ⟨by rfl, ?_⟩) ?_ ?_
                                      rotate_left
                                      · intro w'
                                        go_simp
                                        with_reducible rfl
                                      rotate_left
                                      · simp only [Act.put, List.setIfInBounds_toArray, List.set_cons_zero, List.set_cons_succ, i64_w, i32_w]
                                        rfl
                                      refine pure_ (i := 7) (N := some 48) (v := ?_) (a' := ?_) #[true, true, true, true, true, false, true, true, false, false, false, false, false, false, false, false] rfl rfl (any_of HT_.out (by kernel_rfl)) (fun _ _ _ h => h) (Or.inl ⟨by rfl, ?_⟩) ?_ ?_
                                      rotate_left
                                      · intro w'
                                        go_simp
                                        with_reducible rfl
                                      rotate_left
                                      · simp only [Act.put, List.setIfInBounds_toArray, List.set_cons_zero, List.set_cons_succ, i64_w, i32_w]
                                        rfl
                                      refine pure_ (i := 8) (N := some 49) (v := ?_) (a' := ?_) #[true, true, true, true, true, false, true, true, true, false, false, false, false, false, false, false] rfl rfl (any_of HT_.out (by kernel_rfl)) (fun _ _ _ h => h) (Or.inl ⟨by rfl, ?_⟩) ?_ ?_
                                      rotate_left
                                      · intro w'
                                        go_simp
                                        with_reducible rfl
                                      rotate_left
                                      · simp only [Act.put, List.setIfInBounds_toArray, List.set_cons_zero, List.set_cons_succ, i64_w, i32_w]
                                        rfl
                                      refine pure_ (i := 10) (N := some 51) (v := ?_) (a' := ?_) #[true, true, true, true, true, false, true, true, true, false, true, false, false, false, false, false] rfl rfl (any_of HT_.out (by kernel_rfl)) (fun _ _ _ h => h) (Or.inl ⟨by rfl, ?_⟩) ?_ ?_
                                      rotate_left
                                      · intro w'
                                        go_simp
                                        with_reducible rfl
                                      rotate_left
                                      · simp only [Act.put, List.setIfInBounds_toArray, List.set_cons_zero, List.set_cons_succ, i64_w, i32_w]
                                        rfl
                                      refine pure_ (i := 11) (N := some 52) (v := ?_) (a' := ?_) #[true, true, true, true, true, false, true, true, true, false, true, true, false, false, false, false] rfl rfl (any_of HT_.out (by kernel_rfl)) (fun _ _ _ h => h) (Or.inl ⟨by rfl, ?_⟩) ?_ ?_
                                      rotate_left
                                      · intro w'
                                        go_simp
                                        with_reducible rfl
                                      rotate_left
                                      · simp only [Act.put, List.setIfInBounds_toArray, List.set_cons_zero, List.set_cons_succ, i64_w, i32_w]
                                        rfl
                                      refine take_ (i := 5) (N := some 46) (v := ?_) (a' := ?_) #[true, true, true, true, true, true, true, true, true, false, true, true, false, false, false, false] rfl rfl (take_ofW HT_.out HW_.out (by kernel_rfl)) (fun _ _ _ h => h) (Or.inl ⟨by rfl, ?_⟩) hHeld ?_ ?_
                                      rotate_left
                                      · rintro w' ⟨s0, s1⟩
                                        go_simp
                                        with_reducible rfl
                                      rotate_left
                                      · simp only [Act.put, List.setIfInBounds_toArray, List.set_cons_zero, List.set_cons_succ, i64_w, i32_w]
                                        rfl
                                      refine take_ (i := 9) (N := some 50) (v := ?_) (a' := ?_) #[true, true, true, true, true, true, true, true, true, true, true, true, false, false, false, false] rfl rfl (take_ofW HT_.out HW_.out (by kernel_rfl)) (fun _ _ _ h => h) (Or.inl ⟨by rfl, ?_⟩) hHeld ?_ ?_
                                      rotate_left
                                      · rintro w' ⟨s0, s1⟩
                                        go_simp
                                        with_reducible rfl
                                      rotate_left
                                      · simp only [Act.put, List.setIfInBounds_toArray, List.set_cons_zero, List.set_cons_succ, i64_w, i32_w]
                                        rfl
                                      refine one_ (i := 12) (N := some 53) #[true, true, true, true, true, true, true, true, true, true, true, true, true, false, false, false] rfl rfl (one_of HT_.out (by kernel_rfl)) (by decide) (fun K hK => ?_)
                                      refine goesF_ Try.func91 (by kernel_rfl) rfl #[.int .u8 (rd l1 x29_2), .int .u8 (rd l2 x36_3), .pointer (some ⟨p_, 0, none⟩), .pointer (some ⟨q_, 0, none⟩)] (by rfl) rfl rfl (by rfl) (by (try simp only [List.map_toArray, List.map_cons, List.map_nil]); first | done | rfl | (simp only [List.length_drop, List.length_take]; rfl) | (simp [Act.eval, IntKind.wrap_u8, IntKind.wrap_u32]; done)) ?_
                                      with_reducible refine (galois_New_1.calls b_ p_ q_ a0 (rd l1 x29_2) (rd l2 x36_3) t125 _ ?side1 A23.out).mono ?_
                                      (case side1 => exact (gal_At_below HT0.out HB.out))
                                      rintro e w' ⟨rfl, ⟨nd, rfl⟩⟩
                                      refine ⟨_, rfl, ?_⟩
                                      have p24 : 0 ≤ ((ji18) : Int) := of_decide_eq_true (by first | (with_reducible assumption) | assumption)
                                      have q24 : ((ji18) : Int) < ((x7_3.length : Int) : Int) := of_decide_eq_true (by first | (with_reducible assumption) | assumption)
                                      obtain ⟨go24, co24, eo24, gb24, gl24, cl24, HG24⟩ := Kd.R_form HO_7.out (by omega)
                                      (first | cases eo24 | (injection eo24 with ea_ en_ ec_; (first | subst ea_ | (injection ea_ with ea_; subst ea_)); subst ec_; clear en_))
                                      have GB24 := Aside0.mk gb24
                                      have GG24 := Aside0.mk HG24
                                      clear gb24 gl24 HG24
                                      (first | simp only [add_plain] at hx124_0 | skip)
                                      obtain ⟨hx24_0, hf24_0⟩ := Kd.R_celln 0 HO_7.out ((ji18) : Int) p24 q24
                                      replace p24 := eq_true p24
                                      replace q24 := eq_true q24
                                      have HP27 := Kd.R_putn HO_7.out ((ji18) : Int) (Go.bits .xor .u8 (rd x7_3 (ji18)) t125)
                                      rw [← Ny126.out] at HP27
                                      have HQ27 := Aside0.mk HP27
                                      clear HP27
                                      refine hK.out _ _ ⟨hHeld.1, ((HB.out.cell (World.block_lt_of_cell? w _ ho22)).trans ho22)⟩ (fun hHeld => ?_)
                                      clear hK K
                                      refine norm_ (a' := ?_) ?_ ?_
                                      rotate_left
                                      · show Act.put _ (some 53) _ = _
                                        simp only [Act.put, List.setIfInBounds_toArray, List.set_cons_zero, List.set_cons_succ, i64_w, i32_w]
                                        rfl
                                      refine pure_ (i := 13) (N := some 54) (v := ?_) (a' := ?_) #[true, true, true, true, true, true, true, true, true, true, true, true, true, true, false, false] rfl rfl (any_of HT_.out (by kernel_rfl)) (fun _ _ _ h => h) (Or.inl ⟨by rfl, ?_⟩) ?_ ?_
                                      rotate_left
                                      · intro w'
                                        go_simp
                                        with_reducible rfl
                                      rotate_left
                                      · simp only [Act.put, List.setIfInBounds_toArray, List.set_cons_zero, List.set_cons_succ, i64_w, i32_w]
                                        rfl
                                      refine pure_ (i := 14) (N := some 55) (v := ?_) (a' := ?_) #[true, true, true, true, true, true, true, true, true, true, true, true, true, true, true, false] rfl rfl (any_of HT_.out (by kernel_rfl)) (fun _ _ _ h => h) (Or.inl ⟨by rfl, ?_⟩) ?_ ?_
                                      rotate_left
                                      · intro w'
                                        go_simp
                                        with_reducible rfl
                                      rotate_left
                                      · simp only [Act.put, List.setIfInBounds_toArray, List.set_cons_zero, List.set_cons_succ, i64_w, i32_w]
                                        rfl
                                      refine last_ (i := 15) (N := none) #[true, true, true, true, true, true, true, true, true, true, true, true, true, true, true, true] rfl rfl (one_of HT_.out (by kernel_rfl)) (by decide) (fun K hK => ?_)
                                      refine skip_ (w1 := ?_) (by rfl) rfl ?_ ?_
                                      rotate_left
                                      · go_simp
                                        rfl
                                      refine hK.out _ _ ?_
                                      clear hK K
                                      refine done_ (done_of HT_.out (by kernel_rfl)) ?_
                                      try go_wp2
                                      go_roundg k3
                                      case measure => have := HJ3.out; have := HK2.out; have := HK3.out; omega
                                      case rel => exact ⟨(y126), (wrap64 (x36_3 + 1)), (by first | rfl | (simp; done) | (simp [*]; done) | (simp [wrap64]; done)), H', ⟨by have := HJ3.out; have := HK2.out; have := HK3.out; omega⟩, ⟨by (with_reducible repeat (first | apply Kd.R_alloc | apply Kd.R_drewN | apply Kd.R_drew)); exact HQ27.out⟩, ⟨by repeat (first | (with_reducible first | exact HB.out | apply below_alloc | apply pw_below_drewN | apply below_drew1 | refine below_set ?_ GB24.out) | exact HB.out)⟩⟩
                                    · rw [if_neg c21] at H
                                      exact absurd H (by simp)
                                  · rw [if_neg c20] at H
                                    exact absurd H (by simp)
                                · rw [if_neg c19] at H
                                  exact absurd H (by simp)
                              · rw [if_neg c17] at H
                                exact absurd H (by simp)
                            · rw [if_neg c16] at H
                              exact absurd H (by simp)
                          · rw [if_neg c15] at H
                            have c15b0 : decide (x36_3 < (l2.length : Int)) = false := decide_eq_false c15
                            clear c15
                            have H' := Aside0.mk H
                            clear H
                            go_wp2
                            go_roundg k3
                            case measure => have := HJ3.out; have := HK2.out; have := HK3.out; omega
                            case rel => exact ⟨(x7_3), (wrap64 (x29_2 + 1)), (by first | rfl | (simp; done) | (simp [*]; done) | (simp [wrap64]; done)), H', ⟨by have := HJ3.out; have := HK2.out; have := HK3.out; omega⟩, ⟨by (with_reducible repeat (first | apply Kd.R_alloc | apply Kd.R_drewN | apply Kd.R_drew)); exact HO_7.out⟩, ⟨by repeat (first | (with_reducible first | exact HB.out | apply below_alloc | apply pw_below_drewN | apply below_drew1) | exact HB.out)⟩⟩
                    · rw [if_neg c14] at H
                      exact absurd H (by simp)
                  · rw [if_neg c13] at H
                    exact absurd H (by simp)
                · rw [if_neg c12] at H
                  have c12b0 : decide (x29_2 < (l1.length : Int)) = false := decide_eq_false c12
                  clear c12
                  replace H := Option.bind_eq_some_iff.mp H
                  obtain ⟨t119, A280, H⟩ := H
                  replace H : (some t119) = some r := H
                  have A28 := Aside0.mk A280
                  clear A280
                  obtain rfl := Option.some.inj H
                  obtain ⟨Ao29, co29, eo29⟩ := Kd.R_slice HO_7.out
                  subst eo29
                  go_wp2_with (first | ((with_reducible refine gate_callee (f := 80) rfl ?_); refine goesL_ (some 59) rfl rfl Try.func80 (by kernel_rfl) rfl #[.slice Ao29 x7_2.length co29] rfl (by (try simp only [List.map_toArray, List.map_cons, List.map_nil]); first | done | rfl | (simp only [List.length_drop, List.length_take]; rfl) | (simp [Act.eval, IntKind.wrap_u8, IntKind.wrap_u32]; done)) ?_; (with_reducible refine (galois_trim.calls _ _ x7_2 t119 _ ?side1 ?side2 A28.out).mono ?_); (case side1 => repeat (first | exact (Kd.R_reads' HO_7.out).2.2 | (with_reducible refine Kd.C_alloc ?_ _) | (with_reducible refine Kd.C_drewN ?_ _) | (with_reducible refine Kd.C_drew ?_))); (case side2 => exact (Kd.R_reads' HO_7.out).2.1); rintro e w30 ⟨v120, rfl, ho0, hb⟩; refine ⟨_, rfl, ?_⟩; have n0_ := Aside0.mk (Kd.R_elder' (by (with_reducible repeat (first | apply Kd.R_alloc | apply Kd.R_drewN | apply Kd.R_drew)); exact HO_7.out) (Kd.R_base ho0) hb); have n1_ := Aside0.mk (Kd.R_lower (Kd.R_new' ho0 (Kd.R_lt (by (with_reducible repeat (first | apply Kd.R_alloc | apply Kd.R_drewN | apply Kd.R_drew)); exact HO_7.out))) (below_size (by repeat (first | (with_reducible first | exact HB.out | apply below_alloc | apply pw_below_drewN | apply below_drew1) | exact HB.out)))); have n2_ := Aside0.mk (below_step (by repeat (first | (with_reducible first | exact HB.out | apply below_alloc | apply pw_below_drewN | apply below_drew1) | exact HB.out)) hb); clear HO_7; clear HB; have HO_7 := n0_; have HO121 := n1_; have HB := n2_; clear n0_ n1_ n2_; (try clear hb); (try clear hb2); (try clear hk); (try clear hi); (try clear ho0)))
                  go_ret
                  exact ⟨_, by first | rfl | (simp [errW_none, errW_some] <;> rfl) | (simp only [← hji7]; first | rfl | (simp [errW_none, errW_some] <;> rfl)) | (simp [*, errW_none, errW_some] <;> rfl), by (with_reducible repeat (first | apply Kd.R_alloc | apply Kd.R_drewN | apply Kd.R_drew)); exact Kd.R_mono HO121.out (fun _ hk => trivial), by repeat (first | (with_reducible first | exact HB.out | apply below_alloc | apply pw_below_drewN | apply below_drew1) | exact HB.out)⟩
          · rw [if_neg c9] at H
            exact absurd H (by simp)
        · rw [if_neg c8] at H
          exact absurd H (by simp)

/-! ### galois_Tables_Times: function 43 -/
def galois_Tables_Times.f (k : Nat) (a0 : GTab) (l1 : List Int) (l2 : List Int) : Option (List Int × Int) := (galois_Tables_lists.f k a0 (([l1, l2] : List (List Int)))).bind fun t130 => (if t130 = 0 then ((galois_Tables_times.f k a0 l1 l2).bind fun t131 => (some (t131, 0))) else (some (([] : List Int), t130)))
theorem galois_Tables_Times.mono : ∀ a0 a1 a2 k, LeO (galois_Tables_Times.f k a0 a1 a2) (galois_Tables_Times.f (k + 1) a0 a1 a2) := by
  intro a0 a1 a2 k
  unfold galois_Tables_Times.f
  repeat' first
      | (with_reducible exact galois_Tables_lists.mono _ _ _)
      | (with_reducible exact galois_Tables_times.mono _ _ _ _)
      | (with_reducible exact LeO.refl _)
      | (with_reducible exact LeO.none _)
      | (with_reducible refine LeO.ite ?_ ?_)
      | (with_reducible refine LeO.bind ?_ (fun _ => ?_))
      | exact galois_Tables_lists.mono _ _ _
      | exact galois_Tables_times.mono _ _ _ _
      | exact LeO.none _
      | refine LeO.ite ?_ ?_
      | refine LeO.bind ?_ (fun _ => ?_)
set_option maxHeartbeats 8000000 in
set_option maxRecDepth 100000 in
theorem galois_Tables_Times.calls (k : Nat) (A0 : Option Addr) (a0 : GTab) (P1_ : Nat → Prop) (A1 : Option Addr) (c1 : Nat) (l1 : List Int) (P2_ : Nat → Prop) (A2 : Option Addr) (c2 : Nat) (l2 : List Int) (r1 : List Int) (r2 : Int) (w : World) (hr0 : gal_OK w A0 a0) (hs1 : Kd.V (Kd.int .u8) 5 w w.heap.size (fun k_ => P1_ k_) (.slice A1 l1.length c1) l1) (hs2 : Kd.V (Kd.int .u8) 5 w w.heap.size (fun k_ => P2_ k_) (.slice A2 l2.length c2) l2) (h : galois_Tables_Times.f k a0 l1 l2 = some (r1, r2)) :
    Calls Try.prog 43 #[.pointer A0, .slice A1 l1.length c1, .slice A2 l2.length c2] w fun e w' => ∃ v0_ : Value, e = .returned (.tuple #[v0_, .int .i64 r2]) ∧ Kd.R (Kd.int .u8) 5 w' w.heap.size (fun k_ => (w.heap.size ≤ k_)) v0_ r1 ∧ Below w.heap.size w w' := by
  have HR0 := Aside0.mk hr0
  clear hr0
  have HO1 := Aside0.mk (show Kd.V (Kd.int .u8) 5 w w.heap.size (fun k_ => ((P1_ k_ ∨ P2_ k_) ∨ w.heap.size ≤ k_)) (.slice A1 l1.length c1) l1 from Kd.V_mono hs1 (fun k_ hk => .inl (.inl hk)))
  have HO2 := Aside0.mk (show Kd.V (Kd.int .u8) 5 w w.heap.size (fun k_ => ((P1_ k_ ∨ P2_ k_) ∨ w.heap.size ≤ k_)) (.slice A2 l2.length c2) l2 from Kd.V_mono hs2 (fun k_ hk => .inl (.inr hk)))
  have HB := Aside0.mk (Below.refl w.heap.size w)
  have H : ((galois_Tables_lists.f k a0 (([l1, l2] : List (List Int)))).bind fun t130 => (if t130 = 0 then ((galois_Tables_times.f k a0 l1 l2).bind fun t131 => (some (t131, 0))) else (some (([] : List Int), t130)))) = some (r1, r2) := h
  clear h
  obtain ⟨y127, hy127⟩ : ∃ y_ : List (List Int), y_ = (([l1, l2] : List (List Int))) := ⟨_, rfl⟩
  replace H : ((galois_Tables_lists.f k a0 y127).bind fun t130 => (if t130 = 0 then ((galois_Tables_times.f k a0 l1 l2).bind fun t131 => (some (t131, 0))) else (some (([] : List Int), t130)))) = some (r1, r2) := by first | (rw [hy127]; with_reducible exact H) | (have H2_ := (Option.bind_some _ _).symm.trans H; rw [hy127]; with_reducible exact H2_) | (have H2_ := (Option.bind_some _ _).symm.trans H; with_reducible exact H2_) | with_reducible exact H | (rw [hy127]; exact H) | exact H
  have Ny127 := Aside0.mk hy127
  clear hy127
  replace H := Option.bind_eq_some_iff.mp H
  obtain ⟨t130, A40, H⟩ := H
  replace H : (if t130 = 0 then ((galois_Tables_times.f k a0 l1 l2).bind fun t131 => (some (t131, 0))) else (some (([] : List Int), t130))) = some (r1, r2) := H
  have A4 := Aside0.mk A40
  clear A40
  by_cases c5 : t130 = 0
  · rw [if_pos c5] at H
    have c5b0 : (t130 == 0) = true := beq_iff_eq.mpr c5
    have c5b1 : (t130 != 0) = false := bne_eq_false_iff_eq.mpr c5
    clear c5
    replace H := Option.bind_eq_some_iff.mp H
    obtain ⟨t131, A60, H⟩ := H
    replace H : (some (t131, 0)) = some (r1, r2) := H
    have A6 := Aside0.mk A60
    clear A60
    simp only [Option.some.injEq, Prod.mk.injEq] at H
    obtain ⟨rfl, rfl⟩ := H
    go_enter Try.func43, Try.ntmps43
    go_wp2_with (first | ((with_reducible refine gate_dst (N := 12) rfl ?_); refine Kd.N_lit (Kd.slice 5 (Kd.int .u8)) _ 44 ?hg (N' := 12) ?hd (xs := ([l1, l2] : List (List Int))) (inner := [.slice A1 l1.length c1, .slice A2 l2.length c2]) (ok := (fun k_ => ((P1_ k_ ∨ P2_ k_) ∨ w.heap.size ≤ k_))) (okp := (fun k_ => ((P1_ k_ ∨ P2_ k_) ∨ w.heap.size ≤ k_))) ?hr ?hp (fun _ hk => hk) ((show ∀ k_, w.heap.size ≤ k_ → (fun k_ => ((P1_ k_ ∨ P2_ k_) ∨ w.heap.size ≤ k_)) k_ from fun k_ hk => (.inr (Nat.le_trans (below_size (by repeat (first | (with_reducible first | exact HB.out | apply below_alloc | apply pw_below_drewN | apply below_drew1) | exact HB.out))) hk))) _ (Nat.le_refl _)) (Below.refl _ _) (Nat.le_refl _) (by simp) ?_; (case hd => rfl); (case hg => rfl); (case hr => first | (go_simp; done) | (go_simp; rfl)); (case hp => exact (Reps.one (show Kd.FK (Kd.slice 5 (Kd.int .u8)) _ _ l1 [.slice A1 l1.length c1] from (Kd.FK_slice_mk (Kd.V_reads' (Kd.V_mono (ok' := (fun k_ => ((P1_ k_ ∨ P2_ k_) ∨ w.heap.size ≤ k_))) (HO1.out) (fun k_ hk => hk))).2.1 (Kd.V_F (Kd.V_mono (ok' := (fun k_ => ((P1_ k_ ∨ P2_ k_) ∨ w.heap.size ≤ k_))) (HO1.out) (fun k_ hk => hk))))) (Reps.one (show Kd.FK (Kd.slice 5 (Kd.int .u8)) _ _ l2 [.slice A2 l2.length c2] from (Kd.FK_slice_mk (Kd.V_reads' (Kd.V_mono (ok' := (fun k_ => ((P1_ k_ ∨ P2_ k_) ∨ w.heap.size ≤ k_))) (HO2.out) (fun k_ hk => hk))).2.1 (Kd.V_F (Kd.V_mono (ok' := (fun k_ => ((P1_ k_ ∨ P2_ k_) ∨ w.heap.size ≤ k_))) (HO2.out) (fun k_ hk => hk))))) (Reps.none _ _)))); intro v128 w7 ho8 hb hg_ hnew_; clear hg_ hnew_; (first | rw [← Ny127.out] at ho8 | (simp only [Int.reduceToNat] at ho8; rw [← Ny127.out] at ho8)); have n0_ := Aside0.mk (Kd.V_elder' (by (with_reducible repeat (first | apply Kd.V_alloc | apply Kd.V_drewN | apply Kd.V_drew)); exact HO1.out) (Kd.N_base ho8) hb); have n1_ := Aside0.mk (Kd.V_elder' (by (with_reducible repeat (first | apply Kd.V_alloc | apply Kd.V_drewN | apply Kd.V_drew)); exact HO2.out) (Kd.N_base ho8) hb); have n2_ := Aside0.mk (Kd.N_lower ho8 (below_size (by repeat (first | (with_reducible first | exact HB.out | apply below_alloc | apply pw_below_drewN | apply below_drew1) | exact HB.out)))); have n3_ := Aside0.mk (below_step (by repeat (first | (with_reducible first | exact HB.out | apply below_alloc | apply pw_below_drewN | apply below_drew1) | exact HB.out)) hb); clear HO1; clear HO2; clear HB; have HO1 := n0_; have HO2 := n1_; have HO129 := n2_; have HB := n3_; clear n0_ n1_ n2_ n3_; clear hb ho8; obtain ⟨Ao9, co9, eo9⟩ := Kd.N_slice HO129.out; subst eo9) | ((with_reducible refine gate_callee (f := 65) rfl ?_); refine goesL_ (some 13) rfl rfl Try.func65 (by kernel_rfl) rfl #[.pointer A0, .slice Ao9 y127.length co9] rfl (by (try simp only [List.map_toArray, List.map_cons, List.map_nil]); first | done | rfl | (simp only [List.length_drop, List.length_take]; rfl) | (simp [Act.eval, IntKind.wrap_u8, IntKind.wrap_u32]; done)) ?_; (with_reducible refine (galois_Tables_lists.calls k _ a0 _ _ y127 t130 _ ?side1 ?side2 ?side3 A4.out).mono ?_); (case side1 => exact (gal_OK_below HR0.out HB.out)); (case side2 => repeat (first | exact (Kd.N_reads' HO129.out).2.2 | (with_reducible refine Kd.C_alloc ?_ _) | (with_reducible refine Kd.C_drewN ?_ _) | (with_reducible refine Kd.C_drew ?_))); (case side3 => exact (Kd.N_reads' HO129.out).2.1); rintro e w' ⟨rfl, ⟨nd, rfl⟩⟩; refine ⟨_, rfl, ?_⟩) | ((with_reducible refine gate_callee (f := 69) rfl ?_); refine goesL_ (some 20) rfl rfl Try.func69 (by kernel_rfl) rfl #[.pointer A0, .slice A1 l1.length c1, .slice A2 l2.length c2] rfl (by (try simp only [List.map_toArray, List.map_cons, List.map_nil]); first | done | rfl | (simp only [List.length_drop, List.length_take]; rfl) | (simp [Act.eval, IntKind.wrap_u8, IntKind.wrap_u32]; done)) ?_; (with_reducible refine (galois_Tables_times.calls k _ a0 _ _ l1 _ _ l2 t131 _ ?side1 ?side2 ?side3 ?side4 ?side5 A6.out).mono ?_); (case side1 => exact (gal_OK_below HR0.out (by repeat (first | (with_reducible first | exact HB.out | apply below_alloc | apply pw_below_drewN | apply below_drew1) | exact HB.out)))); (case side2 => repeat (first | exact (Kd.V_reads' HO1.out).2.2 | (with_reducible refine Kd.C_alloc ?_ _) | (with_reducible refine Kd.C_drewN ?_ _) | (with_reducible refine Kd.C_drew ?_))); (case side3 => exact (Kd.V_reads' HO1.out).2.1); (case side4 => repeat (first | exact (Kd.V_reads' HO2.out).2.2 | (with_reducible refine Kd.C_alloc ?_ _) | (with_reducible refine Kd.C_drewN ?_ _) | (with_reducible refine Kd.C_drew ?_))); (case side5 => exact (Kd.V_reads' HO2.out).2.1); rintro e w10 ⟨v132, rfl, ho0, hb⟩; refine ⟨_, rfl, ?_⟩; have n0_ := Aside0.mk (Kd.V_elder' (by (with_reducible repeat (first | apply Kd.V_alloc | apply Kd.V_drewN | apply Kd.V_drew)); exact HO1.out) (Kd.R_base ho0) hb); have n1_ := Aside0.mk (Kd.V_elder' (by (with_reducible repeat (first | apply Kd.V_alloc | apply Kd.V_drewN | apply Kd.V_drew)); exact HO2.out) (Kd.R_base ho0) hb); have n2_ := Aside0.mk (Kd.N_elder' (by (with_reducible repeat (first | apply Kd.N_alloc | apply Kd.N_drewN | apply Kd.N_drew)); exact HO129.out) (Kd.R_base ho0) hb); have n3_ := Aside0.mk (Kd.R_lower (Kd.R_newM (M := fun k_ => (w.heap.size ≤ k_)) ho0 (below_size (by repeat (first | (with_reducible first | exact HB.out | apply below_alloc | apply pw_below_drewN | apply below_drew1) | exact HB.out))) (fun k_ h_ => h_)) (below_size (by repeat (first | (with_reducible first | exact HB.out | apply below_alloc | apply pw_below_drewN | apply below_drew1) | exact HB.out)))); have n4_ := Aside0.mk (below_step (by repeat (first | (with_reducible first | exact HB.out | apply below_alloc | apply pw_below_drewN | apply below_drew1) | exact HB.out)) hb); clear HO1; clear HO2; clear HO129; clear HB; have HO1 := n0_; have HO2 := n1_; have HO129 := n2_; have HO133 := n3_; have HB := n4_; clear n0_ n1_ n2_ n3_ n4_; (try clear hb); (try clear hb2); (try clear hk); (try clear hi); (try clear ho0)))
    go_ret2
    exact ⟨_, by first | rfl | (simp [errW_none, errW_some] <;> rfl) | (simp [*, errW_none, errW_some] <;> rfl), by (with_reducible repeat (first | apply Kd.R_alloc | apply Kd.R_drewN | apply Kd.R_drew)); exact Kd.R_mono HO133.out (fun _ hk => hk.1), by repeat (first | (with_reducible first | exact HB.out | apply below_alloc | apply pw_below_drewN | apply below_drew1) | exact HB.out)⟩
  · rw [if_neg c5] at H
    have c5b0 : (t130 == 0) = false := beq_eq_false_iff_ne.mpr c5
    have c5b1 : (t130 != 0) = true := bne_iff_ne.mpr c5
    simp only [Option.some.injEq, Prod.mk.injEq] at H
    obtain ⟨rfl, rfl⟩ := H
    go_enter Try.func43, Try.ntmps43
    go_wp2_with (first | ((with_reducible refine gate_dst (N := 12) rfl ?_); refine Kd.N_lit (Kd.slice 5 (Kd.int .u8)) _ 44 ?hg (N' := 12) ?hd (xs := ([l1, l2] : List (List Int))) (inner := [.slice A1 l1.length c1, .slice A2 l2.length c2]) (ok := (fun k_ => ((P1_ k_ ∨ P2_ k_) ∨ w.heap.size ≤ k_))) (okp := (fun k_ => ((P1_ k_ ∨ P2_ k_) ∨ w.heap.size ≤ k_))) ?hr ?hp (fun _ hk => hk) ((show ∀ k_, w.heap.size ≤ k_ → (fun k_ => ((P1_ k_ ∨ P2_ k_) ∨ w.heap.size ≤ k_)) k_ from fun k_ hk => (.inr (Nat.le_trans (below_size (by repeat (first | (with_reducible first | exact HB.out | apply below_alloc | apply pw_below_drewN | apply below_drew1) | exact HB.out))) hk))) _ (Nat.le_refl _)) (Below.refl _ _) (Nat.le_refl _) (by simp) ?_; (case hd => rfl); (case hg => rfl); (case hr => first | (go_simp; done) | (go_simp; rfl)); (case hp => exact (Reps.one (show Kd.FK (Kd.slice 5 (Kd.int .u8)) _ _ l1 [.slice A1 l1.length c1] from (Kd.FK_slice_mk (Kd.V_reads' (Kd.V_mono (ok' := (fun k_ => ((P1_ k_ ∨ P2_ k_) ∨ w.heap.size ≤ k_))) (HO1.out) (fun k_ hk => hk))).2.1 (Kd.V_F (Kd.V_mono (ok' := (fun k_ => ((P1_ k_ ∨ P2_ k_) ∨ w.heap.size ≤ k_))) (HO1.out) (fun k_ hk => hk))))) (Reps.one (show Kd.FK (Kd.slice 5 (Kd.int .u8)) _ _ l2 [.slice A2 l2.length c2] from (Kd.FK_slice_mk (Kd.V_reads' (Kd.V_mono (ok' := (fun k_ => ((P1_ k_ ∨ P2_ k_) ∨ w.heap.size ≤ k_))) (HO2.out) (fun k_ hk => hk))).2.1 (Kd.V_F (Kd.V_mono (ok' := (fun k_ => ((P1_ k_ ∨ P2_ k_) ∨ w.heap.size ≤ k_))) (HO2.out) (fun k_ hk => hk))))) (Reps.none _ _)))); intro v128 w11 ho12 hb hg_ hnew_; clear hg_ hnew_; (first | rw [← Ny127.out] at ho12 | (simp only [Int.reduceToNat] at ho12; rw [← Ny127.out] at ho12)); have n0_ := Aside0.mk (Kd.V_elder' (by (with_reducible repeat (first | apply Kd.V_alloc | apply Kd.V_drewN | apply Kd.V_drew)); exact HO1.out) (Kd.N_base ho12) hb); have n1_ := Aside0.mk (Kd.V_elder' (by (with_reducible repeat (first | apply Kd.V_alloc | apply Kd.V_drewN | apply Kd.V_drew)); exact HO2.out) (Kd.N_base ho12) hb); have n2_ := Aside0.mk (Kd.N_lower ho12 (below_size (by repeat (first | (with_reducible first | exact HB.out | apply below_alloc | apply pw_below_drewN | apply below_drew1) | exact HB.out)))); have n3_ := Aside0.mk (below_step (by repeat (first | (with_reducible first | exact HB.out | apply below_alloc | apply pw_below_drewN | apply below_drew1) | exact HB.out)) hb); clear HO1; clear HO2; clear HB; have HO1 := n0_; have HO2 := n1_; have HO129 := n2_; have HB := n3_; clear n0_ n1_ n2_ n3_; clear hb ho12; obtain ⟨Ao13, co13, eo13⟩ := Kd.N_slice HO129.out; subst eo13) | ((with_reducible refine gate_callee (f := 65) rfl ?_); refine goesL_ (some 13) rfl rfl Try.func65 (by kernel_rfl) rfl #[.pointer A0, .slice Ao13 y127.length co13] rfl (by (try simp only [List.map_toArray, List.map_cons, List.map_nil]); first | done | rfl | (simp only [List.length_drop, List.length_take]; rfl) | (simp [Act.eval, IntKind.wrap_u8, IntKind.wrap_u32]; done)) ?_; (with_reducible refine (galois_Tables_lists.calls k _ a0 _ _ y127 t130 _ ?side1 ?side2 ?side3 A4.out).mono ?_); (case side1 => exact (gal_OK_below HR0.out HB.out)); (case side2 => repeat (first | exact (Kd.N_reads' HO129.out).2.2 | (with_reducible refine Kd.C_alloc ?_ _) | (with_reducible refine Kd.C_drewN ?_ _) | (with_reducible refine Kd.C_drew ?_))); (case side3 => exact (Kd.N_reads' HO129.out).2.1); rintro e w' ⟨rfl, ⟨nd, rfl⟩⟩; refine ⟨_, rfl, ?_⟩))
    go_ret2
    exact ⟨_, by first | rfl | (simp [errW_none, errW_some] <;> rfl) | (simp [*, errW_none, errW_some] <;> rfl), by first | exact Kd.R_nil _ _ _ _ _ | exact Kd.N_nil _ _ _ _ _ | exact Kd.V_nil _ _ _ _ _ | exact Kd.Q_nil _ _ _ _ _ | exact Kd.S_nil _ _ _ _ _, by repeat (first | (with_reducible first | exact HB.out | apply below_alloc | apply pw_below_drewN | apply below_drew1) | exact HB.out)⟩

/-! ### bits_Len64: function 83, given -/
def bits_ltab : ByteArray := { data := (([0, 1, 2, 2, 3, 3, 3, 3, 4, 4, 4, 4, 4, 4, 4, 4, 5, 5, 5, 5, 5, 5, 5, 5, 5, 5, 5, 5, 5, 5, 5, 5, 6, 6, 6, 6, 6, 6, 6, 6, 6, 6, 6, 6, 6, 6, 6, 6, 6, 6, 6, 6, 6, 6, 6, 6, 6, 6, 6, 6, 6, 6, 6, 6].append [7, 7, 7, 7, 7, 7, 7, 7, 7, 7, 7, 7, 7, 7, 7, 7, 7, 7, 7, 7, 7, 7, 7, 7, 7, 7, 7, 7, 7, 7, 7, 7, 7, 7, 7, 7, 7, 7, 7, 7, 7, 7, 7, 7, 7, 7, 7, 7, 7, 7, 7, 7, 7, 7, 7, 7, 7, 7, 7, 7, 7, 7, 7, 7]).append ([8, 8, 8, 8, 8, 8, 8, 8, 8, 8, 8, 8, 8, 8, 8, 8, 8, 8, 8, 8, 8, 8, 8, 8, 8, 8, 8, 8, 8, 8, 8, 8, 8, 8, 8, 8, 8, 8, 8, 8, 8, 8, 8, 8, 8, 8, 8, 8, 8, 8, 8, 8, 8, 8, 8, 8, 8, 8, 8, 8, 8, 8, 8, 8].append [8, 8, 8, 8, 8, 8, 8, 8, 8, 8, 8, 8, 8, 8, 8, 8, 8, 8, 8, 8, 8, 8, 8, 8, 8, 8, 8, 8, 8, 8, 8, 8, 8, 8, 8, 8, 8, 8, 8, 8, 8, 8, 8, 8, 8, 8, 8, 8, 8, 8, 8, 8, 8, 8, 8, 8, 8, 8, 8, 8, 8, 8, 8, 8])).toArray }
theorem bits_ltab_size : bits_ltab.size = 256 := by decide +kernel
theorem bits_ltab_all : (List.range 256).all (fun x => decide (bt bits_ltab (x : Int) = (Poly.blen x : Nat))) = true := by decide +kernel
theorem bits_ltab_at (x : Nat) (hx : x < 256) : bt bits_ltab (x : Int) = (Poly.blen x : Nat) := by
  have h := List.all_eq_true.1 bits_ltab_all x (List.mem_range.2 hx)
  exact of_decide_eq_true h
theorem bits_blen8 (x : Nat) (hx : x < 256) : Poly.blen x ≤ 8 := by
  rcases Nat.lt_or_ge 8 (Poly.blen x) with h | h
  · have h0 : x ≠ 0 := by
      intro h0
      rw [h0] at h
      exact absurd h (by decide)
    have h1 := Poly.blen_le h0
    have h2 : 2 ^ 8 ≤ 2 ^ (Poly.blen x - 1) := Nat.pow_le_pow_right (by omega) (by omega)
    omega
  · exact h
theorem bits_fin0 (b : Nat) (hb : b ≤ 8) : wrap64 (b : Int) = (b : Int) := by unfold wrap64; omega
theorem bits_fin (t b : Nat) (hb : b ≤ 8) (ht : t ≤ 56) : wrap64 ((t : Int) + wrap64 (b : Int)) = ((t + b : Nat) : Int) := by unfold wrap64; omega
theorem bits_fin1 (b : Nat) (hb : b ≤ 8) : wrap64 (wrap64 (b : Int)) = ((0 + b : Nat) : Int) := by unfold wrap64; omega
def bits_Len64.f (a0 : Int) : Option (Int) := if 0 ≤ a0 ∧ a0 < 18446744073709551616 then some (Poly.blen a0.toNat : Nat) else none
set_option maxHeartbeats 8000000 in
set_option maxRecDepth 100000 in
theorem bits_Len64_111 (x0 : Nat) (w : World) (x1 : Nat) (e0 : (x0 : Int) / 4294967296 = (x1 : Int)) (b0 : decide ((4294967296 : Int) ≤ (x0 : Int)) = true) (x2 : Nat) (e1 : (x1 : Int) / 65536 = (x2 : Int)) (b1 : decide ((65536 : Int) ≤ (x1 : Int)) = true) (x3 : Nat) (e2 : (x2 : Int) / 256 = (x3 : Int)) (b2 : decide ((256 : Int) ≤ (x2 : Int)) = true) (HY : Aside0 (x3 < 256)) (HE : Aside0 (Poly.blen x0 = 56 + Poly.blen x3)) :
    Calls Try.prog 83 #[.int .u64 (x0 : Int)] w fun e w' => e = .returned (.int .i64 ((Poly.blen x0 : Nat) : Int)) ∧ Drawn0 w w' := by
  have HT := Aside0.mk (bits_ltab_at x3 HY.out)
  have hbl := Aside0.mk (bits_blen8 x3 HY.out)
  have hm : (x3 : Int) % 256 = (x3 : Int) := by have := HY.out; omega
  have q4 : ((x3 : Int) < 256) = True := eq_true (by have := HY.out; omega)
  have p4 : ((0 : Int) ≤ (x3 : Int)) = True := eq_true (by omega)
  have hsz := bits_ltab_size
  go_enter Try.func83, Try.ntmps83
  rw [show ({ data := _ } : ByteArray) = bits_ltab from rfl]
  go_wp2
  go_ret
  refine ⟨congrArg (fun z => Ending.returned (Value.int .i64 z)) ?_, Drawn0.refl _⟩
  have h1 := HT.out
  have h2 := HE.out
  have h3 := hbl.out
  have h4 : ((bits_ltab[x3]'(by have := HY.out; rw [bits_ltab_size]; exact this)).toNat : Int) = ((Poly.blen x3 : Nat) : Int) := (bt_at bits_ltab (x3 : Int) (by have := HY.out; rw [bits_ltab_size]; omega)).trans h1
  rw [h2]
  refine Eq.trans ?_ (bits_fin 56 _ h3 (by decide))
  rw [← h4]
  try rfl
set_option maxHeartbeats 8000000 in
set_option maxRecDepth 100000 in
theorem bits_Len64_110 (x0 : Nat) (w : World) (x1 : Nat) (e0 : (x0 : Int) / 4294967296 = (x1 : Int)) (b0 : decide ((4294967296 : Int) ≤ (x0 : Int)) = true) (x2 : Nat) (e1 : (x1 : Int) / 65536 = (x2 : Int)) (b1 : decide ((65536 : Int) ≤ (x1 : Int)) = true) (b2 : decide ((256 : Int) ≤ (x2 : Int)) = false) (HY : Aside0 (x2 < 256)) (HE : Aside0 (Poly.blen x0 = 48 + Poly.blen x2)) :
    Calls Try.prog 83 #[.int .u64 (x0 : Int)] w fun e w' => e = .returned (.int .i64 ((Poly.blen x0 : Nat) : Int)) ∧ Drawn0 w w' := by
  have HT := Aside0.mk (bits_ltab_at x2 HY.out)
  have hbl := Aside0.mk (bits_blen8 x2 HY.out)
  have hm : (x2 : Int) % 256 = (x2 : Int) := by have := HY.out; omega
  have q4 : ((x2 : Int) < 256) = True := eq_true (by have := HY.out; omega)
  have p4 : ((0 : Int) ≤ (x2 : Int)) = True := eq_true (by omega)
  have hsz := bits_ltab_size
  go_enter Try.func83, Try.ntmps83
  rw [show ({ data := _ } : ByteArray) = bits_ltab from rfl]
  go_wp2
  go_ret
  refine ⟨congrArg (fun z => Ending.returned (Value.int .i64 z)) ?_, Drawn0.refl _⟩
  have h1 := HT.out
  have h2 := HE.out
  have h3 := hbl.out
  have h4 : ((bits_ltab[x2]'(by have := HY.out; rw [bits_ltab_size]; exact this)).toNat : Int) = ((Poly.blen x2 : Nat) : Int) := (bt_at bits_ltab (x2 : Int) (by have := HY.out; rw [bits_ltab_size]; omega)).trans h1
  rw [h2]
  refine Eq.trans ?_ (bits_fin 48 _ h3 (by decide))
  rw [← h4]
  try rfl
set_option maxHeartbeats 8000000 in
set_option maxRecDepth 100000 in
theorem bits_Len64_101 (x0 : Nat) (w : World) (x1 : Nat) (e0 : (x0 : Int) / 4294967296 = (x1 : Int)) (b0 : decide ((4294967296 : Int) ≤ (x0 : Int)) = true) (b1 : decide ((65536 : Int) ≤ (x1 : Int)) = false) (x3 : Nat) (e2 : (x1 : Int) / 256 = (x3 : Int)) (b2 : decide ((256 : Int) ≤ (x1 : Int)) = true) (HY : Aside0 (x3 < 256)) (HE : Aside0 (Poly.blen x0 = 40 + Poly.blen x3)) :
    Calls Try.prog 83 #[.int .u64 (x0 : Int)] w fun e w' => e = .returned (.int .i64 ((Poly.blen x0 : Nat) : Int)) ∧ Drawn0 w w' := by
  have HT := Aside0.mk (bits_ltab_at x3 HY.out)
  have hbl := Aside0.mk (bits_blen8 x3 HY.out)
  have hm : (x3 : Int) % 256 = (x3 : Int) := by have := HY.out; omega
  have q4 : ((x3 : Int) < 256) = True := eq_true (by have := HY.out; omega)
  have p4 : ((0 : Int) ≤ (x3 : Int)) = True := eq_true (by omega)
  have hsz := bits_ltab_size
  go_enter Try.func83, Try.ntmps83
  rw [show ({ data := _ } : ByteArray) = bits_ltab from rfl]
  go_wp2
  go_ret
  refine ⟨congrArg (fun z => Ending.returned (Value.int .i64 z)) ?_, Drawn0.refl _⟩
  have h1 := HT.out
  have h2 := HE.out
  have h3 := hbl.out
  have h4 : ((bits_ltab[x3]'(by have := HY.out; rw [bits_ltab_size]; exact this)).toNat : Int) = ((Poly.blen x3 : Nat) : Int) := (bt_at bits_ltab (x3 : Int) (by have := HY.out; rw [bits_ltab_size]; omega)).trans h1
  rw [h2]
  refine Eq.trans ?_ (bits_fin 40 _ h3 (by decide))
  rw [← h4]
  try rfl
set_option maxHeartbeats 8000000 in
set_option maxRecDepth 100000 in
theorem bits_Len64_100 (x0 : Nat) (w : World) (x1 : Nat) (e0 : (x0 : Int) / 4294967296 = (x1 : Int)) (b0 : decide ((4294967296 : Int) ≤ (x0 : Int)) = true) (b1 : decide ((65536 : Int) ≤ (x1 : Int)) = false) (b2 : decide ((256 : Int) ≤ (x1 : Int)) = false) (HY : Aside0 (x1 < 256)) (HE : Aside0 (Poly.blen x0 = 32 + Poly.blen x1)) :
    Calls Try.prog 83 #[.int .u64 (x0 : Int)] w fun e w' => e = .returned (.int .i64 ((Poly.blen x0 : Nat) : Int)) ∧ Drawn0 w w' := by
  have HT := Aside0.mk (bits_ltab_at x1 HY.out)
  have hbl := Aside0.mk (bits_blen8 x1 HY.out)
  have hm : (x1 : Int) % 256 = (x1 : Int) := by have := HY.out; omega
  have q4 : ((x1 : Int) < 256) = True := eq_true (by have := HY.out; omega)
  have p4 : ((0 : Int) ≤ (x1 : Int)) = True := eq_true (by omega)
  have hsz := bits_ltab_size
  go_enter Try.func83, Try.ntmps83
  rw [show ({ data := _ } : ByteArray) = bits_ltab from rfl]
  go_wp2
  go_ret
  refine ⟨congrArg (fun z => Ending.returned (Value.int .i64 z)) ?_, Drawn0.refl _⟩
  have h1 := HT.out
  have h2 := HE.out
  have h3 := hbl.out
  have h4 : ((bits_ltab[x1]'(by have := HY.out; rw [bits_ltab_size]; exact this)).toNat : Int) = ((Poly.blen x1 : Nat) : Int) := (bt_at bits_ltab (x1 : Int) (by have := HY.out; rw [bits_ltab_size]; omega)).trans h1
  rw [h2]
  refine Eq.trans ?_ (bits_fin 32 _ h3 (by decide))
  rw [← h4]
  try rfl
set_option maxHeartbeats 8000000 in
set_option maxRecDepth 100000 in
theorem bits_Len64_011 (x0 : Nat) (w : World) (b0 : decide ((4294967296 : Int) ≤ (x0 : Int)) = false) (x2 : Nat) (e1 : (x0 : Int) / 65536 = (x2 : Int)) (b1 : decide ((65536 : Int) ≤ (x0 : Int)) = true) (x3 : Nat) (e2 : (x2 : Int) / 256 = (x3 : Int)) (b2 : decide ((256 : Int) ≤ (x2 : Int)) = true) (HY : Aside0 (x3 < 256)) (HE : Aside0 (Poly.blen x0 = 24 + Poly.blen x3)) :
    Calls Try.prog 83 #[.int .u64 (x0 : Int)] w fun e w' => e = .returned (.int .i64 ((Poly.blen x0 : Nat) : Int)) ∧ Drawn0 w w' := by
  have HT := Aside0.mk (bits_ltab_at x3 HY.out)
  have hbl := Aside0.mk (bits_blen8 x3 HY.out)
  have hm : (x3 : Int) % 256 = (x3 : Int) := by have := HY.out; omega
  have q4 : ((x3 : Int) < 256) = True := eq_true (by have := HY.out; omega)
  have p4 : ((0 : Int) ≤ (x3 : Int)) = True := eq_true (by omega)
  have hsz := bits_ltab_size
  go_enter Try.func83, Try.ntmps83
  rw [show ({ data := _ } : ByteArray) = bits_ltab from rfl]
  go_wp2
  go_ret
  refine ⟨congrArg (fun z => Ending.returned (Value.int .i64 z)) ?_, Drawn0.refl _⟩
  have h1 := HT.out
  have h2 := HE.out
  have h3 := hbl.out
  have h4 : ((bits_ltab[x3]'(by have := HY.out; rw [bits_ltab_size]; exact this)).toNat : Int) = ((Poly.blen x3 : Nat) : Int) := (bt_at bits_ltab (x3 : Int) (by have := HY.out; rw [bits_ltab_size]; omega)).trans h1
  rw [h2]
  refine Eq.trans ?_ (bits_fin 24 _ h3 (by decide))
  rw [← h4]
  try rfl
set_option maxHeartbeats 8000000 in
set_option maxRecDepth 100000 in
theorem bits_Len64_010 (x0 : Nat) (w : World) (b0 : decide ((4294967296 : Int) ≤ (x0 : Int)) = false) (x2 : Nat) (e1 : (x0 : Int) / 65536 = (x2 : Int)) (b1 : decide ((65536 : Int) ≤ (x0 : Int)) = true) (b2 : decide ((256 : Int) ≤ (x2 : Int)) = false) (HY : Aside0 (x2 < 256)) (HE : Aside0 (Poly.blen x0 = 16 + Poly.blen x2)) :
    Calls Try.prog 83 #[.int .u64 (x0 : Int)] w fun e w' => e = .returned (.int .i64 ((Poly.blen x0 : Nat) : Int)) ∧ Drawn0 w w' := by
  have HT := Aside0.mk (bits_ltab_at x2 HY.out)
  have hbl := Aside0.mk (bits_blen8 x2 HY.out)
  have hm : (x2 : Int) % 256 = (x2 : Int) := by have := HY.out; omega
  have q4 : ((x2 : Int) < 256) = True := eq_true (by have := HY.out; omega)
  have p4 : ((0 : Int) ≤ (x2 : Int)) = True := eq_true (by omega)
  have hsz := bits_ltab_size
  go_enter Try.func83, Try.ntmps83
  rw [show ({ data := _ } : ByteArray) = bits_ltab from rfl]
  go_wp2
  go_ret
  refine ⟨congrArg (fun z => Ending.returned (Value.int .i64 z)) ?_, Drawn0.refl _⟩
  have h1 := HT.out
  have h2 := HE.out
  have h3 := hbl.out
  have h4 : ((bits_ltab[x2]'(by have := HY.out; rw [bits_ltab_size]; exact this)).toNat : Int) = ((Poly.blen x2 : Nat) : Int) := (bt_at bits_ltab (x2 : Int) (by have := HY.out; rw [bits_ltab_size]; omega)).trans h1
  rw [h2]
  refine Eq.trans ?_ (bits_fin 16 _ h3 (by decide))
  rw [← h4]
  try rfl
set_option maxHeartbeats 8000000 in
set_option maxRecDepth 100000 in
theorem bits_Len64_001 (x0 : Nat) (w : World) (b0 : decide ((4294967296 : Int) ≤ (x0 : Int)) = false) (b1 : decide ((65536 : Int) ≤ (x0 : Int)) = false) (x3 : Nat) (e2 : (x0 : Int) / 256 = (x3 : Int)) (b2 : decide ((256 : Int) ≤ (x0 : Int)) = true) (HY : Aside0 (x3 < 256)) (HE : Aside0 (Poly.blen x0 = 8 + Poly.blen x3)) :
    Calls Try.prog 83 #[.int .u64 (x0 : Int)] w fun e w' => e = .returned (.int .i64 ((Poly.blen x0 : Nat) : Int)) ∧ Drawn0 w w' := by
  have HT := Aside0.mk (bits_ltab_at x3 HY.out)
  have hbl := Aside0.mk (bits_blen8 x3 HY.out)
  have hm : (x3 : Int) % 256 = (x3 : Int) := by have := HY.out; omega
  have q4 : ((x3 : Int) < 256) = True := eq_true (by have := HY.out; omega)
  have p4 : ((0 : Int) ≤ (x3 : Int)) = True := eq_true (by omega)
  have hsz := bits_ltab_size
  go_enter Try.func83, Try.ntmps83
  rw [show ({ data := _ } : ByteArray) = bits_ltab from rfl]
  go_wp2
  go_ret
  refine ⟨congrArg (fun z => Ending.returned (Value.int .i64 z)) ?_, Drawn0.refl _⟩
  have h1 := HT.out
  have h2 := HE.out
  have h3 := hbl.out
  have h4 : ((bits_ltab[x3]'(by have := HY.out; rw [bits_ltab_size]; exact this)).toNat : Int) = ((Poly.blen x3 : Nat) : Int) := (bt_at bits_ltab (x3 : Int) (by have := HY.out; rw [bits_ltab_size]; omega)).trans h1
  rw [h2]
  refine Eq.trans ?_ (bits_fin 8 _ h3 (by decide))
  rw [← h4]
  try rfl
set_option maxHeartbeats 8000000 in
set_option maxRecDepth 100000 in
theorem bits_Len64_000 (x0 : Nat) (w : World) (b0 : decide ((4294967296 : Int) ≤ (x0 : Int)) = false) (b1 : decide ((65536 : Int) ≤ (x0 : Int)) = false) (b2 : decide ((256 : Int) ≤ (x0 : Int)) = false) (HY : Aside0 (x0 < 256)) (HE : Aside0 (Poly.blen x0 = 0 + Poly.blen x0)) :
    Calls Try.prog 83 #[.int .u64 (x0 : Int)] w fun e w' => e = .returned (.int .i64 ((Poly.blen x0 : Nat) : Int)) ∧ Drawn0 w w' := by
  have HT := Aside0.mk (bits_ltab_at x0 HY.out)
  have hbl := Aside0.mk (bits_blen8 x0 HY.out)
  have hm : (x0 : Int) % 256 = (x0 : Int) := by have := HY.out; omega
  have q4 : ((x0 : Int) < 256) = True := eq_true (by have := HY.out; omega)
  have p4 : ((0 : Int) ≤ (x0 : Int)) = True := eq_true (by omega)
  have hsz := bits_ltab_size
  go_enter Try.func83, Try.ntmps83
  rw [show ({ data := _ } : ByteArray) = bits_ltab from rfl]
  go_wp2
  go_ret
  refine ⟨congrArg (fun z => Ending.returned (Value.int .i64 z)) ?_, Drawn0.refl _⟩
  have h1 := HT.out
  have h2 := HE.out
  have h3 := hbl.out
  have h4 : ((bits_ltab[x0]'(by have := HY.out; rw [bits_ltab_size]; exact this)).toNat : Int) = ((Poly.blen x0 : Nat) : Int) := (bt_at bits_ltab (x0 : Int) (by have := HY.out; rw [bits_ltab_size]; omega)).trans h1
  rw [h2]
  refine Eq.trans ?_ (bits_fin1 _ h3)
  rw [← h4]
  try rfl
theorem bits_Len64.calls (a0 : Int) (r : Int) (w : World) (h : bits_Len64.f a0 = some r) :
    Calls Try.prog 83 #[.int .u64 a0] w fun e w' => e = .returned (.int .i64 r) ∧ Drawn0 w w' := by
  unfold bits_Len64.f at h
  by_cases c : 0 ≤ a0 ∧ a0 < 18446744073709551616
  · rw [if_pos c] at h
    obtain rfl := Option.some.inj h
    obtain ⟨x0, rfl⟩ := Int.eq_ofNat_of_zero_le c.1
    have hx := c.2
    rw [Int.toNat_natCast]
    have hx0 : x0 < 18446744073709551616 := by omega
    clear h c hx
    by_cases c0 : 4294967296 ≤ x0
    · obtain ⟨x1, h0⟩ : ∃ y, y = x0 / 4294967296 := ⟨_, rfl⟩
      have d0 : Poly.blen x0 = 32 + Poly.blen x1 := by rw [h0]; exact Poly.blen_div (s := 32) (by omega)
      by_cases c1 : 65536 ≤ x1
      · obtain ⟨x2, h1⟩ : ∃ y, y = x1 / 65536 := ⟨_, rfl⟩
        have d1 : Poly.blen x1 = 16 + Poly.blen x2 := by rw [h1]; exact Poly.blen_div (s := 16) (by omega)
        by_cases c2 : 256 ≤ x2
        · obtain ⟨x3, h2⟩ : ∃ y, y = x2 / 256 := ⟨_, rfl⟩
          have d2 : Poly.blen x2 = 8 + Poly.blen x3 := by rw [h2]; exact Poly.blen_div (s := 8) (by omega)
          exact bits_Len64_111 x0 w x1 (by omega) (decide_eq_true (by omega)) x2 (by omega) (decide_eq_true (by omega)) x3 (by omega) (decide_eq_true (by omega)) ⟨by omega⟩ ⟨by omega⟩
        · skip
          exact bits_Len64_110 x0 w x1 (by omega) (decide_eq_true (by omega)) x2 (by omega) (decide_eq_true (by omega)) (decide_eq_false (by omega)) ⟨by omega⟩ ⟨by omega⟩
      · skip
        by_cases c2 : 256 ≤ x1
        · obtain ⟨x3, h2⟩ : ∃ y, y = x1 / 256 := ⟨_, rfl⟩
          have d2 : Poly.blen x1 = 8 + Poly.blen x3 := by rw [h2]; exact Poly.blen_div (s := 8) (by omega)
          exact bits_Len64_101 x0 w x1 (by omega) (decide_eq_true (by omega)) (decide_eq_false (by omega)) x3 (by omega) (decide_eq_true (by omega)) ⟨by omega⟩ ⟨by omega⟩
        · skip
          exact bits_Len64_100 x0 w x1 (by omega) (decide_eq_true (by omega)) (decide_eq_false (by omega)) (decide_eq_false (by omega)) ⟨by omega⟩ ⟨by omega⟩
    · skip
      by_cases c1 : 65536 ≤ x0
      · obtain ⟨x2, h1⟩ : ∃ y, y = x0 / 65536 := ⟨_, rfl⟩
        have d1 : Poly.blen x0 = 16 + Poly.blen x2 := by rw [h1]; exact Poly.blen_div (s := 16) (by omega)
        by_cases c2 : 256 ≤ x2
        · obtain ⟨x3, h2⟩ : ∃ y, y = x2 / 256 := ⟨_, rfl⟩
          have d2 : Poly.blen x2 = 8 + Poly.blen x3 := by rw [h2]; exact Poly.blen_div (s := 8) (by omega)
          exact bits_Len64_011 x0 w (decide_eq_false (by omega)) x2 (by omega) (decide_eq_true (by omega)) x3 (by omega) (decide_eq_true (by omega)) ⟨by omega⟩ ⟨by omega⟩
        · skip
          exact bits_Len64_010 x0 w (decide_eq_false (by omega)) x2 (by omega) (decide_eq_true (by omega)) (decide_eq_false (by omega)) ⟨by omega⟩ ⟨by omega⟩
      · skip
        by_cases c2 : 256 ≤ x0
        · obtain ⟨x3, h2⟩ : ∃ y, y = x0 / 256 := ⟨_, rfl⟩
          have d2 : Poly.blen x0 = 8 + Poly.blen x3 := by rw [h2]; exact Poly.blen_div (s := 8) (by omega)
          exact bits_Len64_001 x0 w (decide_eq_false (by omega)) (decide_eq_false (by omega)) x3 (by omega) (decide_eq_true (by omega)) ⟨by omega⟩ ⟨by omega⟩
        · skip
          exact bits_Len64_000 x0 w (decide_eq_false (by omega)) (decide_eq_false (by omega)) (decide_eq_false (by omega)) ⟨by omega⟩ ⟨by omega⟩
  · rw [if_neg c] at h
    exact absurd h (by simp)

/-! ### poly_Degree: function 47 -/
def poly_Degree.f (a0 : Int) : Option (Int) := (bits_Len64.f a0).bind fun t134 => (some (wrap64 (t134 - 1)))
set_option maxHeartbeats 8000000 in
set_option maxRecDepth 100000 in
theorem poly_Degree.calls (a0 : Int) (r : Int) (w : World) (h : poly_Degree.f a0 = some r) :
    Calls Try.prog 47 #[.int .u64 a0] w fun e w' => e = .returned (.int .i64 r) ∧ Drawn0 w w' := by
  have H : ((bits_Len64.f a0).bind fun t134 => (some (wrap64 (t134 - 1)))) = some r := h
  clear h
  replace H := Option.bind_eq_some_iff.mp H
  obtain ⟨t134, A20, H⟩ := H
  replace H : (some (wrap64 (t134 - 1))) = some r := H
  have A2 := Aside0.mk A20
  clear A20
  obtain rfl := Option.some.inj H
  go_enter Try.func47, Try.ntmps47
  go_wp2_with (first | ((with_reducible refine gate_callee (f := 83) rfl ?_); refine goesL_ (some 4) rfl rfl Try.func83 (by kernel_rfl) rfl #[.int .u64 a0] rfl (by (try simp only [List.map_toArray, List.map_cons, List.map_nil]); first | done | rfl | (simp only [List.length_drop, List.length_take]; rfl) | (simp [Act.eval, IntKind.wrap_u8, IntKind.wrap_u32]; done)) ?_; (with_reducible refine (bits_Len64.calls a0 t134 _ A2.out).mono ?_); rintro e w' ⟨rfl, ⟨nd, rfl⟩⟩; refine ⟨_, rfl, ?_⟩))
  go_ret
  exact ⟨by first | rfl | (simp; done) | (simp [*]; done) | (simp [wrap64]; done), by repeat (first | exact Drawn0.refl _ | apply Drawn0.step)⟩

end Go.Proofs.Ytlmhppgplbefcaa.P
