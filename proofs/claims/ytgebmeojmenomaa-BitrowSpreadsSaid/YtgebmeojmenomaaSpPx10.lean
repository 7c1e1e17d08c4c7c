-- written by mk.sh, a program of this session, over the kit's print
import Derived.Test.YtgebmeojmenomaaSpPx0
import Derived.Test.YtgebmeojmenomaaSpPx2
import Derived.Test.YtgebmeojmenomaaSpPx8
import Derived.Test.YtgebmeojmenomaaSpPx9
namespace Go.Proofs.Ytgebmeojmenomaa.P
open Go.RowKit Go.Proofs.YtgebmeojmenomaaW.PrintWords Go.Proofs.YtgebmeojmenomaaW.PrintLast Go.Proofs.YtgebmeojmenomaaW.PrintMore
attribute [local go_sem] max2_int min2_int max_two min_two max_three min_three max_four min_four   -- for this text's walks alone
set_option linter.unusedVariables false
set_option linter.unusedSimpArgs false

/-! ### outpostlaw01_BitrowSpreads: function 5 -/
def outpostlaw01_BitrowSpreads.j0 : Nat → Int → Int → Int → Int → Bool → Option (Bool)
  | 0, _, _, _, _, _ => none
  | k + 1, x1, x2, x3, x9, x23 => if x23 = true then ((outpostlaw01_knows.f k).bind fun t354 => (some t354)) else (if x1 = 0 then (none) else (if (wrap64 (Int.tdiv (wrap64 ((wrap64 (x9 + x1)) - 1)) x1)) = 0 then (none) else ((outpostlaw01_within.f x2 0 (wrap64 (x9 - 1))).bind fun t355 => ((outpostlaw01_within.f x3 0 (mn (wrap64 ((wrap64 (x9 - 1)) - t355)) (wrap64 ((wrap64 (Int.tdiv x9 (wrap64 (Int.tdiv (wrap64 ((wrap64 (x9 + x1)) - 1)) x1)))) - 1)))).bind fun t356 => ((outpostlaw01_place.f k x9 t355 x1).bind fun t357 => ((outpostlaw01_place.f k x9 (wrap64 (t356 + t355)) x1).bind fun t358 => (if t357 < 0 then (some false) else (if t358 < 0 then (some false) else (if t355 = (wrap64 (t356 + t355)) then (if t357 = t358 then (some true) else (some false)) else (if (mx (wrap64 (t357 - t358)) (wrap64 (t358 - t357))) ≥ (wrap64 ((wrap64 (Int.tdiv (wrap64 ((wrap64 (x9 + x1)) - 1)) x1)) - 1)) then (some (t357 != t358)) else (some false)))))))))))
def outpostlaw01_BitrowSpreads.f (k : Nat) (l0 : List Int) (a1 : Int) (a2 : Int) (a3 : Int) : Option (Bool) := (outpostlaw01_within.f a1 1 64).bind fun t352 => (if (l0.length : Int) < 2 then (outpostlaw01_BitrowSpreads.j0 k t352 a2 a3 (l0.length : Int) true) else ((outpostlaw01_knows.f k).bind fun t353 => (outpostlaw01_BitrowSpreads.j0 k t352 a2 a3 (l0.length : Int) (!t353))))
theorem outpostlaw01_BitrowSpreads.mono_l : ∀ k, (∀ y0 y1 y2 y3 y4, LeO (outpostlaw01_BitrowSpreads.j0 k y0 y1 y2 y3 y4) (outpostlaw01_BitrowSpreads.j0 (k + 1) y0 y1 y2 y3 y4))
  | 0 => fun _ _ _ _ _ r h => by simp [outpostlaw01_BitrowSpreads.j0] at h
  | k + 1 => by
    have ih0 := outpostlaw01_BitrowSpreads.mono_l k
    · intro y0 y1 y2 y3 y4
      unfold outpostlaw01_BitrowSpreads.j0
      repeat' first
      | (with_reducible exact ih0 _ _ _ _ _)
      | (with_reducible exact outpostlaw01_knows.mono _)
      | (with_reducible exact outpostlaw01_place.mono _ _ _ _)
      | (with_reducible exact LeO.refl _)
      | (with_reducible exact LeO.none _)
      | (with_reducible refine LeO.ite ?_ ?_)
      | (with_reducible refine LeO.bind ?_ (fun _ => ?_))
      | exact ih0 _ _ _ _ _
      | exact outpostlaw01_knows.mono _
      | exact outpostlaw01_place.mono _ _ _ _
      | exact LeO.none _
      | refine LeO.ite ?_ ?_
      | refine LeO.bind ?_ (fun _ => ?_)
theorem outpostlaw01_BitrowSpreads.mono : ∀ a0 a1 a2 a3 k, LeO (outpostlaw01_BitrowSpreads.f k a0 a1 a2 a3) (outpostlaw01_BitrowSpreads.f (k + 1) a0 a1 a2 a3) := by
  intro a0 a1 a2 a3 k
  have ih0 := outpostlaw01_BitrowSpreads.mono_l k
  unfold outpostlaw01_BitrowSpreads.f
  repeat' first
      | (with_reducible exact ih0 _ _ _ _ _)
      | (with_reducible exact outpostlaw01_knows.mono _)
      | (with_reducible exact outpostlaw01_place.mono _ _ _ _)
      | (with_reducible exact LeO.refl _)
      | (with_reducible exact LeO.none _)
      | (with_reducible refine LeO.ite ?_ ?_)
      | (with_reducible refine LeO.bind ?_ (fun _ => ?_))
      | exact ih0 _ _ _ _ _
      | exact outpostlaw01_knows.mono _
      | exact outpostlaw01_place.mono _ _ _ _
      | exact LeO.none _
      | refine LeO.ite ?_ ?_
      | refine LeO.bind ?_ (fun _ => ?_)
set_option maxHeartbeats 8000000 in
set_option maxRecDepth 100000 in
theorem outpostlaw01_BitrowSpreads.calls (k : Nat) (A0 : Option Addr) (c0 : Nat) (l0 : List Int) (a1 : Int) (a2 : Int) (a3 : Int) (r : Bool) (w : World) (hr0 : Kd.C (Kd.int .u8) w A0 l0.length l0) (hc0 : l0.length ≤ c0) (h : outpostlaw01_BitrowSpreads.f k l0 a1 a2 a3 = some r) :
    Calls Try.prog 5 #[.slice A0 l0.length c0, .int .i64 a1, .int .i64 a2, .int .i64 a3] w fun e w' => e = .returned (.bool r) ∧ Below w.heap.size w w' := by
  have HR0 := Aside0.mk hr0
  have HC0 := Aside0.mk hc0
  clear hr0 hc0
  have HB := Aside0.mk (Below.refl w.heap.size w)
  have H : ((outpostlaw01_within.f a1 1 64).bind fun t352 => (if (l0.length : Int) < 2 then (outpostlaw01_BitrowSpreads.j0 k t352 a2 a3 (l0.length : Int) true) else ((outpostlaw01_knows.f k).bind fun t353 => (outpostlaw01_BitrowSpreads.j0 k t352 a2 a3 (l0.length : Int) (!t353))))) = some r := h
  clear h
  replace H := Option.bind_eq_some_iff.mp H
  obtain ⟨t352, A50, H⟩ := H
  replace H : (if (l0.length : Int) < 2 then (outpostlaw01_BitrowSpreads.j0 k t352 a2 a3 (l0.length : Int) true) else ((outpostlaw01_knows.f k).bind fun t353 => (outpostlaw01_BitrowSpreads.j0 k t352 a2 a3 (l0.length : Int) (!t353)))) = some r := H
  have A5 := Aside0.mk A50
  clear A50
  have HC6 := Aside0.mk H
  clear H
  go_enter Try.func5, Try.ntmps5
  go_upto_region 3 with (first | ((with_reducible refine gate_callee (f := 25) rfl ?_); refine goesL_ (some 17) rfl rfl Try.func25 (by kernel_rfl) rfl #[.int .i64 a1, .int .i64 1, .int .i64 64] rfl (by (try simp only [List.map_toArray, List.map_cons, List.map_nil]); first | done | rfl | (simp only [List.length_drop, List.length_take]; rfl)) ?_; (with_reducible refine (outpostlaw01_within.calls a1 1 64 t352 _ A5.out).mono ?_); rintro e w' ⟨rfl, ⟨nd, rfl⟩⟩; refine ⟨_, rfl, ?_⟩))
  (try simp only [Act.put, List.setIfInBounds_toArray, List.set_cons_zero, List.set_cons_succ])
  go_cut [23] (fun v23 wc => ∃ (kq : Nat) (x23_5 : Bool), v23 = .bool x23_5 ∧ Aside0 (outpostlaw01_BitrowSpreads.j0 kq t352 a2 a3 (l0.length : Int) x23_5 = some r) ∧ Aside0 (kq ≤ k) ∧ Aside0 (Below w.heap.size w wc))
  case first =>
    have H := HC6.out
    clear HC6
    by_cases c7 : (l0.length : Int) < 2
    · rw [if_pos c7] at H
      have c7b0 : decide ((l0.length : Int) < 2) = true := decide_eq_true c7
      have c7b1 : decide (l0.length < 2) = true := decide_eq_true (by omega)
      clear c7
      (first | rw [c7b0] | (simp only [i64_w, i32_w]; rw [c7b0]) | skip)
      have H' := Aside0.mk H
      clear H
      go_wp2
      go_meet
      case rel => exact ⟨_, (true), (by first | rfl | (simp; done) | (simp [*]; done) | (simp [wrap64]; done)), H', ⟨by first | omega | exact Nat.le_refl _⟩, ⟨by repeat (first | (with_reducible first | exact HB.out | apply below_alloc | apply pw_below_drewN | apply below_drew1) | exact HB.out)⟩⟩
    · rw [if_neg c7] at H
      have c7b0 : decide ((l0.length : Int) < 2) = false := decide_eq_false c7
      have c7b1 : decide (l0.length < 2) = false := decide_eq_false (by omega)
      clear c7
      (first | rw [c7b0] | (simp only [i64_w, i32_w]; rw [c7b0]) | skip)
      replace H := Option.bind_eq_some_iff.mp H
      obtain ⟨t353, A80, H⟩ := H
      replace H : (outpostlaw01_BitrowSpreads.j0 k t352 a2 a3 (l0.length : Int) (!t353)) = some r := H
      have A8 := Aside0.mk A80
      clear A80
      have H' := Aside0.mk H
      clear H
      go_wp2_with (first | (go_at_call 21; (with_reducible refine (outpostlaw01_knows.calls k  t353 _ A8.out).mono ?_); rintro e w9 ⟨rfl, hb⟩; have n0_ := Aside0.mk (below_step (by repeat (first | (with_reducible first | exact HB.out | apply below_alloc | apply pw_below_drewN | apply below_drew1) | exact HB.out)) hb); clear HB; have HB := n0_; clear n0_; (try clear hb); (try clear hb2); (try clear hk); (try clear hi)))
      go_meet
      case rel => exact ⟨_, (!t353), (by first | rfl | (simp; done) | (simp [*]; done) | (simp [wrap64]; done)), H', ⟨by first | omega | exact Nat.le_refl _⟩, ⟨by repeat (first | (with_reducible first | exact HB.out | apply below_alloc | apply pw_below_drewN | apply below_drew1) | exact HB.out)⟩⟩
  case rest =>
    clear HC6
    try clear c2
    try clear p2
    try clear c5
    try clear p6
    try clear c7
    try clear c7b0
    try clear c7b1
    obtain ⟨kq, x23_5, rfl, HA, HJ5, HB⟩ := hcut
    cases kq with
    | zero => exact absurd HA.out (by simp [outpostlaw01_BitrowSpreads.j0])
    | succ kj5 =>
      have H := HA.out
      clear HA
      simp only [outpostlaw01_BitrowSpreads.j0] at H
      by_cases c10 : x23_5 = true
      · subst c10
        have H1 : ((outpostlaw01_knows.f kj5).bind fun t354 => (some t354)) = some r := by rw [if_pos rfl] at H; exact H
        clear H
        have H := H1
        clear H1
        replace H := Option.bind_eq_some_iff.mp H
        obtain ⟨t354, A110, H⟩ := H
        replace H : (some t354) = some r := H
        have A11 := Aside0.mk A110
        clear A110
        obtain rfl := Option.some.inj H
        go_wp2_with (first | ((with_reducible refine gate_callee (f := 21) rfl ?_); refine goesL_ (some 24) rfl rfl Try.func21 (by kernel_rfl) rfl #[] rfl (by (try simp only [List.map_toArray, List.map_cons, List.map_nil]); first | done | rfl | (simp only [List.length_drop, List.length_take]; rfl)) ?_; (with_reducible refine (outpostlaw01_knows.calls kj5  t354 _ A11.out).mono ?_); rintro e w12 ⟨rfl, hb⟩; refine ⟨_, rfl, ?_⟩; have n0_ := Aside0.mk (below_step (by repeat (first | (with_reducible first | exact HB.out | apply below_alloc | apply pw_below_drewN | apply below_drew1) | exact HB.out)) hb); clear HB; have HB := n0_; clear n0_; (try clear hb); (try clear hb2); (try clear hk); (try clear hi)))
        go_ret
        exact ⟨by first | rfl | (simp [errW_none, errW_some] <;> rfl) | (simp [*, errW_none, errW_some] <;> rfl), by repeat (first | (with_reducible first | exact HB.out | apply below_alloc | apply pw_below_drewN | apply below_drew1) | exact HB.out)⟩
      · replace c10 := Bool.eq_false_iff.mpr c10
        subst c10
        have H1 : (if t352 = 0 then (none) else (if (wrap64 (Int.tdiv (wrap64 ((wrap64 ((l0.length : Int) + t352)) - 1)) t352)) = 0 then (none) else ((outpostlaw01_within.f a2 0 (wrap64 ((l0.length : Int) - 1))).bind fun t355 => ((outpostlaw01_within.f a3 0 (mn (wrap64 ((wrap64 ((l0.length : Int) - 1)) - t355)) (wrap64 ((wrap64 (Int.tdiv (l0.length : Int) (wrap64 (Int.tdiv (wrap64 ((wrap64 ((l0.length : Int) + t352)) - 1)) t352)))) - 1)))).bind fun t356 => ((outpostlaw01_place.f kj5 (l0.length : Int) t355 t352).bind fun t357 => ((outpostlaw01_place.f kj5 (l0.length : Int) (wrap64 (t356 + t355)) t352).bind fun t358 => (if t357 < 0 then (some false) else (if t358 < 0 then (some false) else (if t355 = (wrap64 (t356 + t355)) then (if t357 = t358 then (some true) else (some false)) else (if (mx (wrap64 (t357 - t358)) (wrap64 (t358 - t357))) ≥ (wrap64 ((wrap64 (Int.tdiv (wrap64 ((wrap64 ((l0.length : Int) + t352)) - 1)) t352)) - 1)) then (some (t357 != t358)) else (some false))))))))))) = some r := by rw [if_neg (show ¬ (false = true) by decide)] at H; exact H
        clear H
        have H := H1
        clear H1
        by_cases c13 : t352 = 0
        · rw [if_pos c13] at H
          exact absurd H (by simp)
        · rw [if_neg c13] at H
          have c13b0 : (t352 == 0) = false := beq_eq_false_iff_ne.mpr c13
          have c13b1 : (t352 != 0) = true := bne_iff_ne.mpr c13
          by_cases c14 : (wrap64 (Int.tdiv (wrap64 ((wrap64 ((l0.length : Int) + t352)) - 1)) t352)) = 0
          · rw [if_pos c14] at H
            exact absurd H (by simp)
          · rw [if_neg c14] at H
            have c14b0 : ((wrap64 (Int.tdiv (wrap64 ((wrap64 ((l0.length : Int) + t352)) - 1)) t352)) == 0) = false := beq_eq_false_iff_ne.mpr c14
            have c14b1 : ((wrap64 (Int.tdiv (wrap64 ((wrap64 ((l0.length : Int) + t352)) - 1)) t352)) != 0) = true := bne_iff_ne.mpr c14
            replace H := Option.bind_eq_some_iff.mp H
            obtain ⟨t355, A150, H⟩ := H
            replace H : ((outpostlaw01_within.f a3 0 (mn (wrap64 ((wrap64 ((l0.length : Int) - 1)) - t355)) (wrap64 ((wrap64 (Int.tdiv (l0.length : Int) (wrap64 (Int.tdiv (wrap64 ((wrap64 ((l0.length : Int) + t352)) - 1)) t352)))) - 1)))).bind fun t356 => ((outpostlaw01_place.f kj5 (l0.length : Int) t355 t352).bind fun t357 => ((outpostlaw01_place.f kj5 (l0.length : Int) (wrap64 (t356 + t355)) t352).bind fun t358 => (if t357 < 0 then (some false) else (if t358 < 0 then (some false) else (if t355 = (wrap64 (t356 + t355)) then (if t357 = t358 then (some true) else (some false)) else (if (mx (wrap64 (t357 - t358)) (wrap64 (t358 - t357))) ≥ (wrap64 ((wrap64 (Int.tdiv (wrap64 ((wrap64 ((l0.length : Int) + t352)) - 1)) t352)) - 1)) then (some (t357 != t358)) else (some false)))))))) = some r := H
            have A15 := Aside0.mk A150
            clear A150
            obtain ⟨ji16, hji16⟩ : ∃ j_ : Int, (mn (wrap64 ((wrap64 ((l0.length : Int) - 1)) - t355)) (wrap64 ((wrap64 (Int.tdiv (l0.length : Int) (wrap64 (Int.tdiv (wrap64 ((wrap64 ((l0.length : Int) + t352)) - 1)) t352)))) - 1))) = j_ := ⟨_, rfl⟩
            replace H : ((outpostlaw01_within.f a3 0 (ji16)).bind fun t356 => ((outpostlaw01_place.f kj5 (l0.length : Int) t355 t352).bind fun t357 => ((outpostlaw01_place.f kj5 (l0.length : Int) (wrap64 (t356 + t355)) t352).bind fun t358 => (if t357 < 0 then (some false) else (if t358 < 0 then (some false) else (if t355 = (wrap64 (t356 + t355)) then (if t357 = t358 then (some true) else (some false)) else (if (mx (wrap64 (t357 - t358)) (wrap64 (t358 - t357))) ≥ (wrap64 ((wrap64 (Int.tdiv (wrap64 ((wrap64 ((l0.length : Int) + t352)) - 1)) t352)) - 1)) then (some (t357 != t358)) else (some false)))))))) = some r := by first | (rw [hji16] at H; exact H) | (simp only [hji16] at H ⊢; exact H)
            (try rw [hji16] at A15)
            have hji16_ : (if (wrap64 ((wrap64 (Int.tdiv (l0.length : Int) (wrap64 (Int.tdiv (wrap64 ((wrap64 ((l0.length : Int) + t352)) - 1)) t352)))) - 1)) < (wrap64 ((wrap64 ((l0.length : Int) - 1)) - t355)) then (wrap64 ((wrap64 (Int.tdiv (l0.length : Int) (wrap64 (Int.tdiv (wrap64 ((wrap64 ((l0.length : Int) + t352)) - 1)) t352)))) - 1)) else (wrap64 ((wrap64 ((l0.length : Int) - 1)) - t355))) = ji16 := hji16
            (try (have hji16d := hji16_; simp only [Int.natCast_tdiv_eq_ediv] at hji16d))
            replace H := Option.bind_eq_some_iff.mp H
            obtain ⟨t356, A170, H⟩ := H
            replace H : ((outpostlaw01_place.f kj5 (l0.length : Int) t355 t352).bind fun t357 => ((outpostlaw01_place.f kj5 (l0.length : Int) (wrap64 (t356 + t355)) t352).bind fun t358 => (if t357 < 0 then (some false) else (if t358 < 0 then (some false) else (if t355 = (wrap64 (t356 + t355)) then (if t357 = t358 then (some true) else (some false)) else (if (mx (wrap64 (t357 - t358)) (wrap64 (t358 - t357))) ≥ (wrap64 ((wrap64 (Int.tdiv (wrap64 ((wrap64 ((l0.length : Int) + t352)) - 1)) t352)) - 1)) then (some (t357 != t358)) else (some false))))))) = some r := H
            have A17 := Aside0.mk A170
            clear A170
            replace H := Option.bind_eq_some_iff.mp H
            obtain ⟨t357, A180, H⟩ := H
            replace H : ((outpostlaw01_place.f kj5 (l0.length : Int) (wrap64 (t356 + t355)) t352).bind fun t358 => (if t357 < 0 then (some false) else (if t358 < 0 then (some false) else (if t355 = (wrap64 (t356 + t355)) then (if t357 = t358 then (some true) else (some false)) else (if (mx (wrap64 (t357 - t358)) (wrap64 (t358 - t357))) ≥ (wrap64 ((wrap64 (Int.tdiv (wrap64 ((wrap64 ((l0.length : Int) + t352)) - 1)) t352)) - 1)) then (some (t357 != t358)) else (some false)))))) = some r := H
            have A18 := Aside0.mk A180
            clear A180
            replace H := Option.bind_eq_some_iff.mp H
            obtain ⟨t358, A190, H⟩ := H
            replace H : (if t357 < 0 then (some false) else (if t358 < 0 then (some false) else (if t355 = (wrap64 (t356 + t355)) then (if t357 = t358 then (some true) else (some false)) else (if (mx (wrap64 (t357 - t358)) (wrap64 (t358 - t357))) ≥ (wrap64 ((wrap64 (Int.tdiv (wrap64 ((wrap64 ((l0.length : Int) + t352)) - 1)) t352)) - 1)) then (some (t357 != t358)) else (some false))))) = some r := H
            have A19 := Aside0.mk A190
            clear A190
            by_cases c20 : t357 < 0
            · rw [if_pos c20] at H
              have c20b0 : decide (t357 < 0) = true := decide_eq_true c20
              clear c20
              obtain rfl := Option.some.inj H
              go_wp2_with (first | ((with_reducible refine gate_callee (f := 25) rfl ?_); refine goesL_ (some 37) rfl rfl Try.func25 (by kernel_rfl) rfl #[.int .i64 a2, .int .i64 0, .int .i64 (wrap64 ((l0.length : Int) - 1))] rfl (by (try simp only [List.map_toArray, List.map_cons, List.map_nil]); first | done | rfl | (simp only [List.length_drop, List.length_take]; rfl)) ?_; (with_reducible refine (outpostlaw01_within.calls a2 0 (wrap64 ((l0.length : Int) - 1)) t355 _ A15.out).mono ?_); rintro e w' ⟨rfl, ⟨nd, rfl⟩⟩; refine ⟨_, rfl, ?_⟩) | ((with_reducible refine gate_callee (f := 25) rfl ?_); refine goesL_ (some 46) rfl rfl Try.func25 (by kernel_rfl) rfl #[.int .i64 a3, .int .i64 0, .int .i64 ji16] rfl (by (try simp only [List.map_toArray, List.map_cons, List.map_nil]); first | done | (simp only [hji16]; rfl) | rfl | (simp only [List.length_drop, List.length_take]; rfl)) ?_; (with_reducible refine (outpostlaw01_within.calls a3 0 ji16 t356 _ A17.out).mono ?_); rintro e w' ⟨rfl, ⟨nd, rfl⟩⟩; refine ⟨_, rfl, ?_⟩) | ((with_reducible refine gate_callee (f := 26) rfl ?_); refine goesL_ (some 52) rfl rfl Try.func26 (by kernel_rfl) rfl #[.int .i64 (l0.length : Int), .int .i64 t355, .int .i64 t352] rfl (by (try simp only [List.map_toArray, List.map_cons, List.map_nil]); first | done | rfl | (simp only [List.length_drop, List.length_take]; rfl)) ?_; (with_reducible refine (outpostlaw01_place.calls kj5 (l0.length : Int) t355 t352 t357 _ A18.out).mono ?_); rintro e w21 ⟨rfl, hb⟩; refine ⟨_, rfl, ?_⟩; have n0_ := Aside0.mk (below_step (by repeat (first | (with_reducible first | exact HB.out | apply below_alloc | apply pw_below_drewN | apply below_drew1) | exact HB.out)) hb); clear HB; have HB := n0_; clear n0_; (try clear hb); (try clear hb2); (try clear hk); (try clear hi)) | ((with_reducible refine gate_callee (f := 26) rfl ?_); refine goesL_ (some 56) rfl rfl Try.func26 (by kernel_rfl) rfl #[.int .i64 (l0.length : Int), .int .i64 (wrap64 (t356 + t355)), .int .i64 t352] rfl (by (try simp only [List.map_toArray, List.map_cons, List.map_nil]); first | done | rfl | (simp only [List.length_drop, List.length_take]; rfl)) ?_; (with_reducible refine (outpostlaw01_place.calls kj5 (l0.length : Int) (wrap64 (t356 + t355)) t352 t358 _ A19.out).mono ?_); rintro e w22 ⟨rfl, hb⟩; refine ⟨_, rfl, ?_⟩; have n0_ := Aside0.mk (below_step (by repeat (first | (with_reducible first | exact HB.out | apply below_alloc | apply pw_below_drewN | apply below_drew1) | exact HB.out)) hb); clear HB; have HB := n0_; clear n0_; (try clear hb); (try clear hb2); (try clear hk); (try clear hi)))
              go_ret
              exact ⟨by first | rfl | (simp [errW_none, errW_some] <;> rfl) | (simp only [← hji16]; first | rfl | (simp [errW_none, errW_some] <;> rfl)) | (simp [*, errW_none, errW_some] <;> rfl), by repeat (first | (with_reducible first | exact HB.out | apply below_alloc | apply pw_below_drewN | apply below_drew1) | exact HB.out)⟩
            · rw [if_neg c20] at H
              have c20b0 : decide (t357 < 0) = false := decide_eq_false c20
              clear c20
              by_cases c23 : t358 < 0
              · rw [if_pos c23] at H
                have c23b0 : decide (t358 < 0) = true := decide_eq_true c23
                clear c23
                obtain rfl := Option.some.inj H
                go_wp2_with (first | ((with_reducible refine gate_callee (f := 25) rfl ?_); refine goesL_ (some 37) rfl rfl Try.func25 (by kernel_rfl) rfl #[.int .i64 a2, .int .i64 0, .int .i64 (wrap64 ((l0.length : Int) - 1))] rfl (by (try simp only [List.map_toArray, List.map_cons, List.map_nil]); first | done | rfl | (simp only [List.length_drop, List.length_take]; rfl)) ?_; (with_reducible refine (outpostlaw01_within.calls a2 0 (wrap64 ((l0.length : Int) - 1)) t355 _ A15.out).mono ?_); rintro e w' ⟨rfl, ⟨nd, rfl⟩⟩; refine ⟨_, rfl, ?_⟩) | ((with_reducible refine gate_callee (f := 25) rfl ?_); refine goesL_ (some 46) rfl rfl Try.func25 (by kernel_rfl) rfl #[.int .i64 a3, .int .i64 0, .int .i64 ji16] rfl (by (try simp only [List.map_toArray, List.map_cons, List.map_nil]); first | done | (simp only [hji16]; rfl) | rfl | (simp only [List.length_drop, List.length_take]; rfl)) ?_; (with_reducible refine (outpostlaw01_within.calls a3 0 ji16 t356 _ A17.out).mono ?_); rintro e w' ⟨rfl, ⟨nd, rfl⟩⟩; refine ⟨_, rfl, ?_⟩) | ((with_reducible refine gate_callee (f := 26) rfl ?_); refine goesL_ (some 52) rfl rfl Try.func26 (by kernel_rfl) rfl #[.int .i64 (l0.length : Int), .int .i64 t355, .int .i64 t352] rfl (by (try simp only [List.map_toArray, List.map_cons, List.map_nil]); first | done | rfl | (simp only [List.length_drop, List.length_take]; rfl)) ?_; (with_reducible refine (outpostlaw01_place.calls kj5 (l0.length : Int) t355 t352 t357 _ A18.out).mono ?_); rintro e w24 ⟨rfl, hb⟩; refine ⟨_, rfl, ?_⟩; have n0_ := Aside0.mk (below_step (by repeat (first | (with_reducible first | exact HB.out | apply below_alloc | apply pw_below_drewN | apply below_drew1) | exact HB.out)) hb); clear HB; have HB := n0_; clear n0_; (try clear hb); (try clear hb2); (try clear hk); (try clear hi)) | ((with_reducible refine gate_callee (f := 26) rfl ?_); refine goesL_ (some 56) rfl rfl Try.func26 (by kernel_rfl) rfl #[.int .i64 (l0.length : Int), .int .i64 (wrap64 (t356 + t355)), .int .i64 t352] rfl (by (try simp only [List.map_toArray, List.map_cons, List.map_nil]); first | done | rfl | (simp only [List.length_drop, List.length_take]; rfl)) ?_; (with_reducible refine (outpostlaw01_place.calls kj5 (l0.length : Int) (wrap64 (t356 + t355)) t352 t358 _ A19.out).mono ?_); rintro e w25 ⟨rfl, hb⟩; refine ⟨_, rfl, ?_⟩; have n0_ := Aside0.mk (below_step (by repeat (first | (with_reducible first | exact HB.out | apply below_alloc | apply pw_below_drewN | apply below_drew1) | exact HB.out)) hb); clear HB; have HB := n0_; clear n0_; (try clear hb); (try clear hb2); (try clear hk); (try clear hi)))
                go_ret
                exact ⟨by first | rfl | (simp [errW_none, errW_some] <;> rfl) | (simp only [← hji16]; first | rfl | (simp [errW_none, errW_some] <;> rfl)) | (simp [*, errW_none, errW_some] <;> rfl), by repeat (first | (with_reducible first | exact HB.out | apply below_alloc | apply pw_below_drewN | apply below_drew1) | exact HB.out)⟩
              · rw [if_neg c23] at H
                have c23b0 : decide (t358 < 0) = false := decide_eq_false c23
                clear c23
                by_cases c26 : t355 = (wrap64 (t356 + t355))
                · rw [if_pos c26] at H
                  have c26b0 : (t355 == (wrap64 (t356 + t355))) = true := beq_iff_eq.mpr c26
                  have c26b1 : (t355 != (wrap64 (t356 + t355))) = false := bne_eq_false_iff_eq.mpr c26
                  clear c26
                  by_cases c27 : t357 = t358
                  · rw [if_pos c27] at H
                    have c27b0 : (t357 == t358) = true := beq_iff_eq.mpr c27
                    have c27b1 : (t357 != t358) = false := bne_eq_false_iff_eq.mpr c27
                    clear c27
                    obtain rfl := Option.some.inj H
                    go_wp2_with (first | ((with_reducible refine gate_callee (f := 25) rfl ?_); refine goesL_ (some 37) rfl rfl Try.func25 (by kernel_rfl) rfl #[.int .i64 a2, .int .i64 0, .int .i64 (wrap64 ((l0.length : Int) - 1))] rfl (by (try simp only [List.map_toArray, List.map_cons, List.map_nil]); first | done | rfl | (simp only [List.length_drop, List.length_take]; rfl)) ?_; (with_reducible refine (outpostlaw01_within.calls a2 0 (wrap64 ((l0.length : Int) - 1)) t355 _ A15.out).mono ?_); rintro e w' ⟨rfl, ⟨nd, rfl⟩⟩; refine ⟨_, rfl, ?_⟩) | ((with_reducible refine gate_callee (f := 25) rfl ?_); refine goesL_ (some 46) rfl rfl Try.func25 (by kernel_rfl) rfl #[.int .i64 a3, .int .i64 0, .int .i64 ji16] rfl (by (try simp only [List.map_toArray, List.map_cons, List.map_nil]); first | done | (simp only [hji16]; rfl) | rfl | (simp only [List.length_drop, List.length_take]; rfl)) ?_; (with_reducible refine (outpostlaw01_within.calls a3 0 ji16 t356 _ A17.out).mono ?_); rintro e w' ⟨rfl, ⟨nd, rfl⟩⟩; refine ⟨_, rfl, ?_⟩) | ((with_reducible refine gate_callee (f := 26) rfl ?_); refine goesL_ (some 52) rfl rfl Try.func26 (by kernel_rfl) rfl #[.int .i64 (l0.length : Int), .int .i64 t355, .int .i64 t352] rfl (by (try simp only [List.map_toArray, List.map_cons, List.map_nil]); first | done | rfl | (simp only [List.length_drop, List.length_take]; rfl)) ?_; (with_reducible refine (outpostlaw01_place.calls kj5 (l0.length : Int) t355 t352 t357 _ A18.out).mono ?_); rintro e w28 ⟨rfl, hb⟩; refine ⟨_, rfl, ?_⟩; have n0_ := Aside0.mk (below_step (by repeat (first | (with_reducible first | exact HB.out | apply below_alloc | apply pw_below_drewN | apply below_drew1) | exact HB.out)) hb); clear HB; have HB := n0_; clear n0_; (try clear hb); (try clear hb2); (try clear hk); (try clear hi)) | ((with_reducible refine gate_callee (f := 26) rfl ?_); refine goesL_ (some 56) rfl rfl Try.func26 (by kernel_rfl) rfl #[.int .i64 (l0.length : Int), .int .i64 (wrap64 (t356 + t355)), .int .i64 t352] rfl (by (try simp only [List.map_toArray, List.map_cons, List.map_nil]); first | done | rfl | (simp only [List.length_drop, List.length_take]; rfl)) ?_; (with_reducible refine (outpostlaw01_place.calls kj5 (l0.length : Int) (wrap64 (t356 + t355)) t352 t358 _ A19.out).mono ?_); rintro e w29 ⟨rfl, hb⟩; refine ⟨_, rfl, ?_⟩; have n0_ := Aside0.mk (below_step (by repeat (first | (with_reducible first | exact HB.out | apply below_alloc | apply pw_below_drewN | apply below_drew1) | exact HB.out)) hb); clear HB; have HB := n0_; clear n0_; (try clear hb); (try clear hb2); (try clear hk); (try clear hi)))
                    go_ret
                    exact ⟨by first | rfl | (simp [errW_none, errW_some] <;> rfl) | (simp only [← hji16]; first | rfl | (simp [errW_none, errW_some] <;> rfl)) | (simp [*, errW_none, errW_some] <;> rfl), by repeat (first | (with_reducible first | exact HB.out | apply below_alloc | apply pw_below_drewN | apply below_drew1) | exact HB.out)⟩
                  · rw [if_neg c27] at H
                    have c27b0 : (t357 == t358) = false := beq_eq_false_iff_ne.mpr c27
                    have c27b1 : (t357 != t358) = true := bne_iff_ne.mpr c27
                    obtain rfl := Option.some.inj H
                    go_wp2_with (first | ((with_reducible refine gate_callee (f := 25) rfl ?_); refine goesL_ (some 37) rfl rfl Try.func25 (by kernel_rfl) rfl #[.int .i64 a2, .int .i64 0, .int .i64 (wrap64 ((l0.length : Int) - 1))] rfl (by (try simp only [List.map_toArray, List.map_cons, List.map_nil]); first | done | rfl | (simp only [List.length_drop, List.length_take]; rfl)) ?_; (with_reducible refine (outpostlaw01_within.calls a2 0 (wrap64 ((l0.length : Int) - 1)) t355 _ A15.out).mono ?_); rintro e w' ⟨rfl, ⟨nd, rfl⟩⟩; refine ⟨_, rfl, ?_⟩) | ((with_reducible refine gate_callee (f := 25) rfl ?_); refine goesL_ (some 46) rfl rfl Try.func25 (by kernel_rfl) rfl #[.int .i64 a3, .int .i64 0, .int .i64 ji16] rfl (by (try simp only [List.map_toArray, List.map_cons, List.map_nil]); first | done | (simp only [hji16]; rfl) | rfl | (simp only [List.length_drop, List.length_take]; rfl)) ?_; (with_reducible refine (outpostlaw01_within.calls a3 0 ji16 t356 _ A17.out).mono ?_); rintro e w' ⟨rfl, ⟨nd, rfl⟩⟩; refine ⟨_, rfl, ?_⟩) | ((with_reducible refine gate_callee (f := 26) rfl ?_); refine goesL_ (some 52) rfl rfl Try.func26 (by kernel_rfl) rfl #[.int .i64 (l0.length : Int), .int .i64 t355, .int .i64 t352] rfl (by (try simp only [List.map_toArray, List.map_cons, List.map_nil]); first | done | rfl | (simp only [List.length_drop, List.length_take]; rfl)) ?_; (with_reducible refine (outpostlaw01_place.calls kj5 (l0.length : Int) t355 t352 t357 _ A18.out).mono ?_); rintro e w30 ⟨rfl, hb⟩; refine ⟨_, rfl, ?_⟩; have n0_ := Aside0.mk (below_step (by repeat (first | (with_reducible first | exact HB.out | apply below_alloc | apply pw_below_drewN | apply below_drew1) | exact HB.out)) hb); clear HB; have HB := n0_; clear n0_; (try clear hb); (try clear hb2); (try clear hk); (try clear hi)) | ((with_reducible refine gate_callee (f := 26) rfl ?_); refine goesL_ (some 56) rfl rfl Try.func26 (by kernel_rfl) rfl #[.int .i64 (l0.length : Int), .int .i64 (wrap64 (t356 + t355)), .int .i64 t352] rfl (by (try simp only [List.map_toArray, List.map_cons, List.map_nil]); first | done | rfl | (simp only [List.length_drop, List.length_take]; rfl)) ?_; (with_reducible refine (outpostlaw01_place.calls kj5 (l0.length : Int) (wrap64 (t356 + t355)) t352 t358 _ A19.out).mono ?_); rintro e w31 ⟨rfl, hb⟩; refine ⟨_, rfl, ?_⟩; have n0_ := Aside0.mk (below_step (by repeat (first | (with_reducible first | exact HB.out | apply below_alloc | apply pw_below_drewN | apply below_drew1) | exact HB.out)) hb); clear HB; have HB := n0_; clear n0_; (try clear hb); (try clear hb2); (try clear hk); (try clear hi)))
                    go_ret
                    exact ⟨by first | rfl | (simp [errW_none, errW_some] <;> rfl) | (simp only [← hji16]; first | rfl | (simp [errW_none, errW_some] <;> rfl)) | (simp [*, errW_none, errW_some] <;> rfl), by repeat (first | (with_reducible first | exact HB.out | apply below_alloc | apply pw_below_drewN | apply below_drew1) | exact HB.out)⟩
                · rw [if_neg c26] at H
                  have c26b0 : (t355 == (wrap64 (t356 + t355))) = false := beq_eq_false_iff_ne.mpr c26
                  have c26b1 : (t355 != (wrap64 (t356 + t355))) = true := bne_iff_ne.mpr c26
                  obtain ⟨ji32, hji32⟩ : ∃ j_ : Int, (mx (wrap64 (t357 - t358)) (wrap64 (t358 - t357))) = j_ := ⟨_, rfl⟩
                  replace H : (if (ji32) ≥ (wrap64 ((wrap64 (Int.tdiv (wrap64 ((wrap64 ((l0.length : Int) + t352)) - 1)) t352)) - 1)) then (some (t357 != t358)) else (some false)) = some r := by first | (rw [hji32] at H; exact H) | (simp only [hji32] at H ⊢; exact H)
                  (try rw [hji32] at A15)
                  (try rw [hji32] at A17)
                  (try rw [hji32] at A18)
                  (try rw [hji32] at A19)
                  have hji32_ : (if (wrap64 (t357 - t358)) < (wrap64 (t358 - t357)) then (wrap64 (t358 - t357)) else (wrap64 (t357 - t358))) = ji32 := hji32
                  by_cases c33 : (ji32) ≥ (wrap64 ((wrap64 (Int.tdiv (wrap64 ((wrap64 ((l0.length : Int) + t352)) - 1)) t352)) - 1))
                  · rw [if_pos c33] at H
                    have c33b0 : decide ((wrap64 ((wrap64 (Int.tdiv (wrap64 ((wrap64 ((l0.length : Int) + t352)) - 1)) t352)) - 1)) ≤ (ji32)) = true := decide_eq_true c33
                    clear c33
                    obtain rfl := Option.some.inj H
                    go_wp2_with (first | ((with_reducible refine gate_callee (f := 25) rfl ?_); refine goesL_ (some 37) rfl rfl Try.func25 (by kernel_rfl) rfl #[.int .i64 a2, .int .i64 0, .int .i64 (wrap64 ((l0.length : Int) - 1))] rfl (by (try simp only [List.map_toArray, List.map_cons, List.map_nil]); first | done | rfl | (simp only [List.length_drop, List.length_take]; rfl)) ?_; (with_reducible refine (outpostlaw01_within.calls a2 0 (wrap64 ((l0.length : Int) - 1)) t355 _ A15.out).mono ?_); rintro e w' ⟨rfl, ⟨nd, rfl⟩⟩; refine ⟨_, rfl, ?_⟩) | ((with_reducible refine gate_callee (f := 25) rfl ?_); refine goesL_ (some 46) rfl rfl Try.func25 (by kernel_rfl) rfl #[.int .i64 a3, .int .i64 0, .int .i64 ji16] rfl (by (try simp only [List.map_toArray, List.map_cons, List.map_nil]); first | done | (simp only [hji16]; rfl) | rfl | (simp only [List.length_drop, List.length_take]; rfl)) ?_; (with_reducible refine (outpostlaw01_within.calls a3 0 ji16 t356 _ A17.out).mono ?_); rintro e w' ⟨rfl, ⟨nd, rfl⟩⟩; refine ⟨_, rfl, ?_⟩) | ((with_reducible refine gate_callee (f := 26) rfl ?_); refine goesL_ (some 52) rfl rfl Try.func26 (by kernel_rfl) rfl #[.int .i64 (l0.length : Int), .int .i64 t355, .int .i64 t352] rfl (by (try simp only [List.map_toArray, List.map_cons, List.map_nil]); first | done | rfl | (simp only [List.length_drop, List.length_take]; rfl)) ?_; (with_reducible refine (outpostlaw01_place.calls kj5 (l0.length : Int) t355 t352 t357 _ A18.out).mono ?_); rintro e w34 ⟨rfl, hb⟩; refine ⟨_, rfl, ?_⟩; have n0_ := Aside0.mk (below_step (by repeat (first | (with_reducible first | exact HB.out | apply below_alloc | apply pw_below_drewN | apply below_drew1) | exact HB.out)) hb); clear HB; have HB := n0_; clear n0_; (try clear hb); (try clear hb2); (try clear hk); (try clear hi)) | ((with_reducible refine gate_callee (f := 26) rfl ?_); refine goesL_ (some 56) rfl rfl Try.func26 (by kernel_rfl) rfl #[.int .i64 (l0.length : Int), .int .i64 (wrap64 (t356 + t355)), .int .i64 t352] rfl (by (try simp only [List.map_toArray, List.map_cons, List.map_nil]); first | done | rfl | (simp only [List.length_drop, List.length_take]; rfl)) ?_; (with_reducible refine (outpostlaw01_place.calls kj5 (l0.length : Int) (wrap64 (t356 + t355)) t352 t358 _ A19.out).mono ?_); rintro e w35 ⟨rfl, hb⟩; refine ⟨_, rfl, ?_⟩; have n0_ := Aside0.mk (below_step (by repeat (first | (with_reducible first | exact HB.out | apply below_alloc | apply pw_below_drewN | apply below_drew1) | exact HB.out)) hb); clear HB; have HB := n0_; clear n0_; (try clear hb); (try clear hb2); (try clear hk); (try clear hi)))
                    go_ret
                    exact ⟨by first | rfl | (simp [errW_none, errW_some] <;> rfl) | (simp only [← hji16, ← hji32]; first | rfl | (simp [errW_none, errW_some] <;> rfl)) | (simp [*, errW_none, errW_some] <;> rfl), by repeat (first | (with_reducible first | exact HB.out | apply below_alloc | apply pw_below_drewN | apply below_drew1) | exact HB.out)⟩
                  · rw [if_neg c33] at H
                    have c33b0 : decide ((wrap64 ((wrap64 (Int.tdiv (wrap64 ((wrap64 ((l0.length : Int) + t352)) - 1)) t352)) - 1)) ≤ (ji32)) = false := decide_eq_false c33
                    clear c33
                    obtain rfl := Option.some.inj H
                    go_wp2_with (first | ((with_reducible refine gate_callee (f := 25) rfl ?_); refine goesL_ (some 37) rfl rfl Try.func25 (by kernel_rfl) rfl #[.int .i64 a2, .int .i64 0, .int .i64 (wrap64 ((l0.length : Int) - 1))] rfl (by (try simp only [List.map_toArray, List.map_cons, List.map_nil]); first | done | rfl | (simp only [List.length_drop, List.length_take]; rfl)) ?_; (with_reducible refine (outpostlaw01_within.calls a2 0 (wrap64 ((l0.length : Int) - 1)) t355 _ A15.out).mono ?_); rintro e w' ⟨rfl, ⟨nd, rfl⟩⟩; refine ⟨_, rfl, ?_⟩) | ((with_reducible refine gate_callee (f := 25) rfl ?_); refine goesL_ (some 46) rfl rfl Try.func25 (by kernel_rfl) rfl #[.int .i64 a3, .int .i64 0, .int .i64 ji16] rfl (by (try simp only [List.map_toArray, List.map_cons, List.map_nil]); first | done | (simp only [hji16]; rfl) | rfl | (simp only [List.length_drop, List.length_take]; rfl)) ?_; (with_reducible refine (outpostlaw01_within.calls a3 0 ji16 t356 _ A17.out).mono ?_); rintro e w' ⟨rfl, ⟨nd, rfl⟩⟩; refine ⟨_, rfl, ?_⟩) | ((with_reducible refine gate_callee (f := 26) rfl ?_); refine goesL_ (some 52) rfl rfl Try.func26 (by kernel_rfl) rfl #[.int .i64 (l0.length : Int), .int .i64 t355, .int .i64 t352] rfl (by (try simp only [List.map_toArray, List.map_cons, List.map_nil]); first | done | rfl | (simp only [List.length_drop, List.length_take]; rfl)) ?_; (with_reducible refine (outpostlaw01_place.calls kj5 (l0.length : Int) t355 t352 t357 _ A18.out).mono ?_); rintro e w36 ⟨rfl, hb⟩; refine ⟨_, rfl, ?_⟩; have n0_ := Aside0.mk (below_step (by repeat (first | (with_reducible first | exact HB.out | apply below_alloc | apply pw_below_drewN | apply below_drew1) | exact HB.out)) hb); clear HB; have HB := n0_; clear n0_; (try clear hb); (try clear hb2); (try clear hk); (try clear hi)) | ((with_reducible refine gate_callee (f := 26) rfl ?_); refine goesL_ (some 56) rfl rfl Try.func26 (by kernel_rfl) rfl #[.int .i64 (l0.length : Int), .int .i64 (wrap64 (t356 + t355)), .int .i64 t352] rfl (by (try simp only [List.map_toArray, List.map_cons, List.map_nil]); first | done | rfl | (simp only [List.length_drop, List.length_take]; rfl)) ?_; (with_reducible refine (outpostlaw01_place.calls kj5 (l0.length : Int) (wrap64 (t356 + t355)) t352 t358 _ A19.out).mono ?_); rintro e w37 ⟨rfl, hb⟩; refine ⟨_, rfl, ?_⟩; have n0_ := Aside0.mk (below_step (by repeat (first | (with_reducible first | exact HB.out | apply below_alloc | apply pw_below_drewN | apply below_drew1) | exact HB.out)) hb); clear HB; have HB := n0_; clear n0_; (try clear hb); (try clear hb2); (try clear hk); (try clear hi)))
                    go_ret
                    exact ⟨by first | rfl | (simp [errW_none, errW_some] <;> rfl) | (simp only [← hji16, ← hji32]; first | rfl | (simp [errW_none, errW_some] <;> rfl)) | (simp [*, errW_none, errW_some] <;> rfl), by repeat (first | (with_reducible first | exact HB.out | apply below_alloc | apply pw_below_drewN | apply below_drew1) | exact HB.out)⟩

/-- THE ONE PURE STATEMENT of outpostlaw01_BitrowSpreads: yours. -/
def outpostlaw01_BitrowSpreads.Pure : Prop := ∀ (l0 : List Int) (a1 : Int) (a2 : Int) (a3 : Int), l0.length ≤ maxLen → l0.length * 1 ≤ 140737488351232 → (∀ x ∈ l0, (Lit.int .u8 x).wf = true) → (Lit.int .i64 a1).wf = true → (Lit.int .i64 a2).wf = true → (Lit.int .i64 a3).wf = true → ∃ k, outpostlaw01_BitrowSpreads.f k l0 a1 a2 a3 = some true
theorem outpostlaw01_BitrowSpreads.walk (P : outpostlaw01_BitrowSpreads.Pure) (a0 : Option Addr) (len0 cap0 : Nat) (z0 : List Int) (a1 : Int) (a2 : Int) (a3 : Int) (w : World) (w0 : (a0 = none ∧ len0 = 0 ∧ cap0 = 0 ∧ z0 = []) ∨ ∃ x, a0 = some x ∧ len0 ≤ cap0 ∧ cap0 ≤ maxLen ∧ z0.length = cap0 ∧ (∀ i, i < z0.length → w.cell? (x.add i) = some (.int .u8 (z0.getD i 0))) ∧ ∀ n ∈ z0, (Lit.int .u8 n).wf = true) (y0 : len0 * 1 ≤ 140737488351232) (w1 : (Lit.int .i64 a1).wf = true) (w2 : (Lit.int .i64 a2).wf = true) (w3 : (Lit.int .i64 a3).wf = true) :
    Calls Try.prog 5 #[.slice a0 len0 cap0, .int .i64 a1, .int .i64 a2, .int .i64 a3] w fun e w' => e = .returned (.bool true) ∧ Below w.heap.size w w' := by
  obtain ⟨l0, rfl, hr0, hm0, hw0, hc0⟩ := ReadsInt.ofRowC w0
  obtain ⟨k, h⟩ := P l0 a1 a2 a3 hm0 y0 hw0 w1 w2 w3
  refine (outpostlaw01_BitrowSpreads.calls k _ _ l0 a1 a2 a3 true w (Kd.C_of_reads (d := (0 : Int)) (h1 := fun _ => rfl) hr0) hc0 h).mono ?_
  rintro e w' ⟨rfl, hd⟩
  exact ⟨rfl, hd⟩

/-! ### bitrow_Shuffle: function 33, given -/
/-- d places more of a shuffle: out from i on. -/
def bitrow_shuf (n c : Int) (l0 : List Int) : Nat → List Int → Int → Int → Int → Option (List Int)
  | 0, out, _, _, _ => some out
  | d + 1, out, i, col, at_ => (bitrow_next n c col at_).bind fun p => if 0 ≤ p.1 then (if p.1 < (l0.length : Int) then bitrow_shuf n c l0 d (out.set i.toNat (rd l0 p.1)) (i + 1) p.2.1 p.2.2 else none) else none
def bitrow_Shuffle.f (l0 : List Int) (a1 : Int) : Option (List Int × Int) :=
  if a1 < 1 then some ([], 1) else if a1 > 64 then some ([], 1) else if l0.length ≤ 281474976710656 then
    (bitrow_shuf (l0.length : Int) (wrap64 (Int.tdiv (wrap64 (wrap64 ((l0.length : Int) + a1) - 1)) a1)) l0 l0.length (List.replicate l0.length 0) 0 0 0).map (fun r => (r, 0)) else none
set_option maxHeartbeats 8000000 in
set_option maxRecDepth 100000 in
theorem bitrow_Shuffle.calls (A0 : Option Addr) (c0 : Nat) (l0 : List Int) (a1 : Int) (r1 : List Int) (r2 : Int) (w : World) (hr0 : Kd.C (Kd.int .u8) w A0 l0.length l0) (hc0 : l0.length ≤ c0) (h : bitrow_Shuffle.f l0 a1 = some (r1, r2)) :
    Calls Try.prog 33 #[.slice A0 l0.length c0, .int .i64 a1] w fun e w' => ∃ v0_ : Value, e = .returned (.tuple #[v0_, .int .i64 r2]) ∧ Kd.R (Kd.int .u8) 5 w' w.heap.size (fun _ => True) v0_ r1 ∧ Below w.heap.size w w' := by
  have HR0 := Aside0.mk hr0
  clear hr0 hc0
  unfold bitrow_Shuffle.f at h
  by_cases h1 : a1 < 1
  · rw [if_pos h1] at h
    have hb1 : decide (a1 < 1) = true := decide_eq_true h1
    simp only [Option.some.injEq, Prod.mk.injEq] at h
    obtain ⟨rfl, rfl⟩ := h
    clear h1
    go_enter Try.func33, Try.ntmps33
    go_wp2
    go_ret2
    exact ⟨_, rfl, Kd.R_nil _ _ _ _ _, Below.refl _ _⟩
  rw [if_neg h1] at h
  have hb1 : decide (a1 < 1) = false := decide_eq_false h1
  by_cases h2 : a1 > 64
  · rw [if_pos h2] at h
    have hb2 : decide (64 < a1) = true := decide_eq_true h2
    simp only [Option.some.injEq, Prod.mk.injEq] at h
    obtain ⟨rfl, rfl⟩ := h
    clear h1 h2
    go_enter Try.func33, Try.ntmps33
    go_wp2
    go_ret2
    exact ⟨_, rfl, Kd.R_nil _ _ _ _ _, Below.refl _ _⟩
  rw [if_neg h2] at h
  have hb2 : decide (64 < a1) = false := decide_eq_false h2
  by_cases h3' : ¬ l0.length ≤ 281474976710656
  · rw [if_neg h3'] at h
    exact absurd h (by simp)
  have h3 : l0.length ≤ 281474976710656 := by omega
  clear h3'
  rw [if_pos h3] at h
  obtain ⟨cc, hcc⟩ : ∃ cc, cc = wrap64 (Int.tdiv (wrap64 (wrap64 ((l0.length : Int) + a1) - 1)) a1) := ⟨_, rfl⟩
  rw [← hcc] at h
  obtain ⟨r1', hs, he⟩ := Option.map_eq_some_iff.1 h
  injection he with e1 e2
  subst e1 e2
  have HS := Aside0.mk hs
  have hz : a1 ≠ 0 := by omega
  have HZ := Aside0.mk hz
  have HL := Aside0.mk h3
  have HCC := Aside0.mk hcc
  have hl0 : (0 : Int) ≤ (l0.length : Int) := by omega
  clear h h1 h2 h3 hs hcc hz
  go_enter Try.func33, Try.ntmps33
  go_wp2_with (first | (go_at_call 52; refine (bitrow_columns_calls (l0.length : Int) a1 w HZ.out).mono ?_; rintro e w2 ⟨rfl, hv, hsz, hbl⟩; rw [← HCC.out] at hv; have HV := Aside0.mk hv; have HB := Aside0.mk hbl; have HSZ := Aside0.mk hsz; clear hv hbl hsz) | ((with_reducible refine gate_dst (N := 21) rfl ?_); refine Kd.R_make (Kd.int .u8) _ 5 rfl (N := 21) rfl 22 _ _ rfl (l0.length : Int) rfl rfl Try.underlying22 (.int .u8 0) 1 info5 rfl (by decide) (by omega) 0 (ok := fun _ => True) (okp := fun _ => True) rfl (fun _ hk => hk) trivial hl0 (by have := HL.out; omega) (Below.refl _ _) (Nat.le_refl _) ?_; intro v220 w7 ho8 hb hg_ hnew_; clear hg_ hnew_; rw [Int.toNat_natCast] at ho8; have n0_ := Aside0.mk (Kd.R_lower ho8 (below_size HB.out)); have n1_ := Aside0.mk (below_step HB.out hb); have n2_ := Aside0.mk (HV.out.same hb); clear HB HV; have HO := n0_; have HB := n1_; have HV := n2_; clear n0_ n1_ n2_; clear hb ho8; obtain ⟨Ao9, co9, eo9⟩ := Kd.R_slice HO.out; subst eo9; have hlr : (List.replicate l0.length (0 : Int)).length = l0.length := List.length_replicate; rw [hlr] at HO))
  go_loopg [24] l0.length (fun kq v24 w' => ∃ (out : List Int) (i : Nat) (col at_ : Int), v24 = .int .i64 (i : Int) ∧ Aside0 (i + kq = l0.length) ∧ Aside0 (out.length = l0.length) ∧ Aside0 (bitrow_shuf (l0.length : Int) cc l0 kq out (i : Int) col at_ = some r1') ∧ Aside0 (Kd.R (Kd.int .u8) 5 w' w.heap.size (fun _ => True) (.slice Ao9 l0.length co9) out) ∧ Aside0 (bitrow_Vars w' w.heap.size (l0.length : Int) cc col at_) ∧ Aside0 (Below w.heap.size w w'))
  case atStart => exact ⟨List.replicate l0.length 0, 0, 0, 0, rfl, ⟨by omega⟩, ⟨hlr⟩, HS, HO, HV, HB⟩
  case round =>
    clear HS HO HV HB
    obtain ⟨out, i, col, at_, rfl, HI, HN, HS, HO, HV, HB⟩ := hrel
    cases gk with
    | zero =>
      have hj : decide (i < l0.length) = false := decide_eq_false (by have := HI.out; omega)
      have e := HS.out
      simp only [bitrow_shuf] at e
      injection e with e
      subst e
      go_wp2
      go_ret2
      exact ⟨_, rfl, HO.out, HB.out⟩
    | succ k1 =>
      have hj : decide (i < l0.length) = true := decide_eq_true (by have := HI.out; omega)
      have hj0 : decide (0 ≤ (i : Int)) = true := decide_eq_true (by omega)
      have e := HS.out
      simp only [bitrow_shuf] at e
      obtain ⟨⟨p, col', at'⟩, hnx, e⟩ := Option.bind_eq_some_iff.1 e
      have HNX := Aside0.mk hnx
      by_cases p0 : 0 ≤ p
      · by_cases p1 : p < (l0.length : Int)
        · simp only [if_pos p0, if_pos p1, Int.toNat_natCast] at e
          have HE := Aside0.mk e
          have hp0 : decide (0 ≤ p) = true := decide_eq_true p0
          have hp1 : decide (p < (l0.length : Int)) = true := decide_eq_true p1
          obtain ⟨ad, ea, hx⟩ := Kd.at_int HR0.out p p0 p1
          cases ea
          have HX := Aside0.mk hx
          have HQ : 0 ≤ (i : Int) ∧ (i : Int) < (out.length : Int) := ⟨by omega, by have := HI.out; have := HN.out; omega⟩
          have HON := HO.out
          rw [← HN.out] at HON
          obtain ⟨go, co, eo, gb, _, cl, _⟩ := Kd.R_form HON (by omega)
          injection eo with ea en ec
          subst ea ec
          clear HON en
          have GB := Aside0.mk gb
          have HQ2 := Aside0.mk HQ
          have tp0 : (0 ≤ p) = True := eq_true p0
          have tp1 : (p < (l0.length : Int)) = True := eq_true p1
          have ti : (i < l0.length) = True := eq_true (of_decide_eq_true hj)
          clear hx e hnx p0 p1 gb HQ
          go_wp2_with (first | (go_at_call 57; refine (bitrow_columns1_calls w.heap.size (l0.length : Int) cc col at_ p col' at' wr HV.out HNX.out).mono ?_; rintro e w2 ⟨rfl, hv2, hs2, hk2, hb2⟩; have HO2 := Aside0.mk (bitrow_own_next HO.out HV.out hk2); have HV2 := Aside0.mk hv2; have HB2 := Aside0.mk (HB.out.trans (hb2 _ (Nat.le_refl _))); have hx2 := (HB2.out.cell (World.block_lt_of_cell? w _ HX.out)).trans HX.out; obtain ⟨hc9, hf9⟩ := Kd.R_celln 0 HO2.out (i : Int) HQ2.out.1 (by have := HQ2.out.2; have := HN.out; omega); rw [Int.toNat_natCast] at hc9 hf9; clear hv2 hs2 hk2 hb2))
          go_roundg k1
          case measure => omega
          case rel =>
            have HON := HO2.out
            rw [← HN.out] at HON
            obtain ⟨go', co', eo', _, _, cl', hgb⟩ := Kd.R_form HON (by have := HN.out; have := HI.out; omega)
            injection eo' with ea' _ _
            injection ea' with ea'
            injection ea' with ea'
            subst ea'
            have hp := Kd.R_putn HO2.out (i : Int) (rd l0 p)
            rw [Int.toNat_natCast] at hp
            exact ⟨out.set i (rd l0 p), i + 1, col', at', by have h2 := HL.out; have h1 := HI.out; simp [wrap64]; omega, ⟨by have := HI.out; omega⟩, ⟨by rw [List.length_set]; exact HN.out⟩, ⟨by first | exact HE.out | (have := HE.out; simpa using this)⟩, ⟨hp⟩, ⟨HV2.out.other hgb _⟩, ⟨HB2.out.setCell GB.out _⟩⟩
        · simp only [if_pos p0, if_neg p1] at e
          exact absurd e (by simp)
      · simp only [if_neg p0] at e
        exact absurd e (by simp)


end Go.Proofs.Ytgebmeojmenomaa.P
