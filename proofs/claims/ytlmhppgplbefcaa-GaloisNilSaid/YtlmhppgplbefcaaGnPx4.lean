-- written by mk.sh, a program of this session, over the kit's print
import Derived.Test.YtlmhppgplbefcaaGnPx0
import Derived.Test.YtlmhppgplbefcaaGnPx1
import Derived.Test.YtlmhppgplbefcaaGnPx2
import Derived.Test.YtlmhppgplbefcaaGnPx3
namespace Go.Proofs.Ytlmhppgplbefcaa.P
open Go.RowKit Go.Proofs.YtlmhppgplbefcaaW.PrintWords Go.Proofs.YtlmhppgplbefcaaW.PrintLast Go.Proofs.YtlmhppgplbefcaaW.PrintMore
attribute [local go_sem] max2_int min2_int max_two min_two max_three min_three max_four min_four   -- for this text's walks alone
set_option linter.unusedVariables false
set_option linter.unusedSimpArgs false

/-! ### poly_Order: function 100 -/
mutual
def poly_Order.j0 : Nat → Int → Bool → Option (Int × Int)
  | 0, _, _ => none
  | k + 1, x0, x15 => if x15 = true then (some (0, 21)) else (if (Go.bits .and .u64 x0 1) = 0 then (some (0, 22)) else ((poly_rest.f k 1 x0).bind fun t153 => ((poly_rest.f k 2 x0).bind fun t154 => (poly_Order.l0 k x0 t153 t154 1))))
def poly_Order.l0 : Nat → Int → Int → Int → Int → Option (Int × Int)
  | 0, _, _, _, _ => none
  | k + 1, x0, x5, x6, x7 => if x6 = x5 then (some (x7, 0)) else ((poly_rest.f k (IntKind.u64.wrap (x6 * 2)) x0).bind fun t155 => (poly_Order.l0 k x0 x5 t155 (wrap64 (x7 + 1))))
end
def poly_Order.f (k : Nat) (a0 : Int) : Option (Int × Int) := (poly_Degree.f a0).bind fun t152 => (if t152 < 0 then (poly_Order.j0 k a0 true) else (poly_Order.j0 k a0 (decide (t152 > 20))))
theorem poly_Order.mono_l : ∀ k, (∀ y0 y1, LeO (poly_Order.j0 k y0 y1) (poly_Order.j0 (k + 1) y0 y1)) ∧ (∀ y0 y1 y2 y3, LeO (poly_Order.l0 k y0 y1 y2 y3) (poly_Order.l0 (k + 1) y0 y1 y2 y3))
  | 0 => ⟨fun _ _ r h => by simp [poly_Order.j0] at h, fun _ _ _ _ r h => by simp [poly_Order.l0] at h⟩
  | k + 1 => by
    obtain ⟨ih0, ih1⟩ := poly_Order.mono_l k
    refine ⟨?_, ?_⟩
    · intro y0 y1
      unfold poly_Order.j0
      repeat' first
      | (with_reducible exact ih0 _ _)
      | (with_reducible exact ih1 _ _ _ _)
      | (with_reducible exact poly_rest.mono _ _ _)
      | (with_reducible exact LeO.refl _)
      | (with_reducible exact LeO.none _)
      | (with_reducible refine LeO.ite ?_ ?_)
      | (with_reducible refine LeO.bind ?_ (fun _ => ?_))
      | exact ih0 _ _
      | exact ih1 _ _ _ _
      | exact poly_rest.mono _ _ _
      | exact LeO.none _
      | refine LeO.ite ?_ ?_
      | refine LeO.bind ?_ (fun _ => ?_)
    · intro y0 y1 y2 y3
      unfold poly_Order.l0
      repeat' first
      | (with_reducible exact ih0 _ _)
      | (with_reducible exact ih1 _ _ _ _)
      | (with_reducible exact poly_rest.mono _ _ _)
      | (with_reducible exact LeO.refl _)
      | (with_reducible exact LeO.none _)
      | (with_reducible refine LeO.ite ?_ ?_)
      | (with_reducible refine LeO.bind ?_ (fun _ => ?_))
      | exact ih0 _ _
      | exact ih1 _ _ _ _
      | exact poly_rest.mono _ _ _
      | exact LeO.none _
      | refine LeO.ite ?_ ?_
      | refine LeO.bind ?_ (fun _ => ?_)
theorem poly_Order.mono : ∀ a0 k, LeO (poly_Order.f k a0) (poly_Order.f (k + 1) a0) := by
  intro a0 k
  obtain ⟨ih0, ih1⟩ := poly_Order.mono_l k
  unfold poly_Order.f
  repeat' first
      | (with_reducible exact ih0 _ _)
      | (with_reducible exact ih1 _ _ _ _)
      | (with_reducible exact poly_rest.mono _ _ _)
      | (with_reducible exact LeO.refl _)
      | (with_reducible exact LeO.none _)
      | (with_reducible refine LeO.ite ?_ ?_)
      | (with_reducible refine LeO.bind ?_ (fun _ => ?_))
      | exact ih0 _ _
      | exact ih1 _ _ _ _
      | exact poly_rest.mono _ _ _
      | exact LeO.none _
      | refine LeO.ite ?_ ?_
      | refine LeO.bind ?_ (fun _ => ?_)
set_option maxHeartbeats 8000000 in
set_option maxRecDepth 100000 in
theorem poly_Order.calls (k : Nat) (a0 : Int) (r1 : Int) (r2 : Int) (w : World) (h : poly_Order.f k a0 = some (r1, r2)) :
    Calls Try.prog 100 #[.int .u64 a0] w fun e w' => e = .returned (.tuple #[.int .i64 r1, .int .i64 r2]) ∧ Drawn0 w w' := by
  have H : ((poly_Degree.f a0).bind fun t152 => (if t152 < 0 then (poly_Order.j0 k a0 true) else (poly_Order.j0 k a0 (decide (t152 > 20))))) = some (r1, r2) := h
  clear h
  replace H := Option.bind_eq_some_iff.mp H
  obtain ⟨t152, A20, H⟩ := H
  replace H : (if t152 < 0 then (poly_Order.j0 k a0 true) else (poly_Order.j0 k a0 (decide (t152 > 20)))) = some (r1, r2) := H
  have A2 := Aside0.mk A20
  clear A20
  have HC3 := Aside0.mk H
  clear H
  go_enter Try.func100, Try.ntmps100
  go_upto_region 2 with (first | ((with_reducible refine gate_callee (f := 47) rfl ?_); refine goesL_ (some 9) rfl rfl Try.func47 (by kernel_rfl) rfl #[.int .u64 a0] rfl (by (try simp only [List.map_toArray, List.map_cons, List.map_nil]); first | done | rfl | (simp only [List.length_drop, List.length_take]; rfl) | (simp [Act.eval, IntKind.wrap_u8, IntKind.wrap_u32]; done)) ?_; (with_reducible refine (poly_Degree.calls a0 t152 _ A2.out).mono ?_); rintro e w' ⟨rfl, ⟨nd, rfl⟩⟩; refine ⟨_, rfl, ?_⟩))
  (try simp only [Act.put, List.setIfInBounds_toArray, List.set_cons_zero, List.set_cons_succ])
  go_cut [15] (fun v15 wc => ∃ (kq : Nat) (x15_2 : Bool), v15 = .bool x15_2 ∧ Aside0 (poly_Order.j0 kq a0 x15_2 = some (r1, r2)) ∧ Aside0 (kq ≤ k) ∧ Drawn0 w wc)
  case first =>
    have H := HC3.out
    clear HC3
    by_cases c4 : t152 < 0
    · rw [if_pos c4] at H
      have c4b0 : decide (t152 < 0) = true := decide_eq_true c4
      clear c4
      (first | rw [c4b0] | (simp only [i64_w, i32_w]; rw [c4b0]) | rw [c4b1] | skip)
      have H' := Aside0.mk H
      clear H
      go_wp2
      go_meet
      case rel => exact ⟨_, (true), (by first | rfl | (simp; done) | (simp [*]; done) | (simp [wrap64]; done)), H', ⟨by first | omega | exact Nat.le_refl _⟩, by repeat (first | exact Drawn0.refl _ | apply Drawn0.step)⟩
    · rw [if_neg c4] at H
      have c4b0 : decide (t152 < 0) = false := decide_eq_false c4
      clear c4
      (first | rw [c4b0] | (simp only [i64_w, i32_w]; rw [c4b0]) | rw [c4b1] | skip)
      have H' := Aside0.mk H
      clear H
      go_wp2
      go_meet
      case rel => exact ⟨_, (decide (t152 > 20)), (by first | rfl | (simp; done) | (simp [*]; done) | (simp [wrap64]; done)), H', ⟨by first | omega | exact Nat.le_refl _⟩, by repeat (first | exact Drawn0.refl _ | apply Drawn0.step)⟩
  case rest =>
    clear HC3
    try clear c1
    try clear p2
    try clear c4
    try clear c4b0
    try clear c4b1
    obtain ⟨kq, x15_2, rfl, HA, HJ2, ⟨mc2, rfl⟩⟩ := hcut
    cases kq with
    | zero => exact absurd HA.out (by simp [poly_Order.j0])
    | succ kj2 =>
      have H := HA.out
      clear HA
      simp only [poly_Order.j0] at H
      by_cases c5 : x15_2 = true
      · subst c5
        have H1 : (some (0, 21)) = some (r1, r2) := by rw [if_pos rfl] at H; exact H
        clear H
        have H := H1
        clear H1
        simp only [Option.some.injEq, Prod.mk.injEq] at H
        obtain ⟨rfl, rfl⟩ := H
        go_wp2
        go_ret2
        exact ⟨by first | rfl | (simp; done) | (simp [*]; done) | (simp [wrap64]; done), by repeat (first | exact Drawn0.refl _ | apply Drawn0.step)⟩
      · replace c5 := Bool.eq_false_iff.mpr c5
        subst c5
        have H1 : (if (Go.bits .and .u64 a0 1) = 0 then (some (0, 22)) else ((poly_rest.f kj2 1 a0).bind fun t153 => ((poly_rest.f kj2 2 a0).bind fun t154 => (poly_Order.l0 kj2 a0 t153 t154 1)))) = some (r1, r2) := by rw [if_neg (show ¬ (false = true) by decide)] at H; exact H
        clear H
        have H := H1
        clear H1
        by_cases c6 : (Go.bits .and .u64 a0 1) = 0
        · rw [if_pos c6] at H
          have c6b0 : ((Go.bits .and .u64 a0 1) == 0) = true := beq_iff_eq.mpr c6
          have c6b1 : ((Go.bits .and .u64 a0 1) != 0) = false := bne_eq_false_iff_eq.mpr c6
          clear c6
          simp only [Option.some.injEq, Prod.mk.injEq] at H
          obtain ⟨rfl, rfl⟩ := H
          go_wp2
          go_ret2
          exact ⟨by first | rfl | (simp; done) | (simp [*]; done) | (simp [wrap64]; done), by repeat (first | exact Drawn0.refl _ | apply Drawn0.step)⟩
        · rw [if_neg c6] at H
          have c6b0 : ((Go.bits .and .u64 a0 1) == 0) = false := beq_eq_false_iff_ne.mpr c6
          have c6b1 : ((Go.bits .and .u64 a0 1) != 0) = true := bne_iff_ne.mpr c6
          replace H := Option.bind_eq_some_iff.mp H
          obtain ⟨t153, A70, H⟩ := H
          replace H : ((poly_rest.f kj2 2 a0).bind fun t154 => (poly_Order.l0 kj2 a0 t153 t154 1)) = some (r1, r2) := H
          have A7 := Aside0.mk A70
          clear A70
          replace H := Option.bind_eq_some_iff.mp H
          obtain ⟨t154, A80, H⟩ := H
          replace H : (poly_Order.l0 kj2 a0 t153 t154 1) = some (r1, r2) := H
          have A8 := Aside0.mk A80
          clear A80
          have H' := Aside0.mk H
          clear H
          go_wp2_with (first | ((with_reducible refine gate_callee (f := 85) rfl ?_); refine goesL_ (some 20) rfl rfl Try.func85 (by kernel_rfl) rfl #[.int .u64 1, .int .u64 a0] rfl (by (try simp only [List.map_toArray, List.map_cons, List.map_nil]); first | done | rfl | (simp only [List.length_drop, List.length_take]; rfl) | (simp [Act.eval, IntKind.wrap_u8, IntKind.wrap_u32]; done)) ?_; (with_reducible refine (poly_rest.calls kj2 1 a0 t153 _ A7.out).mono ?_); rintro e w' ⟨rfl, ⟨nd, rfl⟩⟩; refine ⟨_, rfl, ?_⟩) | ((with_reducible refine gate_callee (f := 85) rfl ?_); refine goesL_ (some 22) rfl rfl Try.func85 (by kernel_rfl) rfl #[.int .u64 2, .int .u64 a0] rfl (by (try simp only [List.map_toArray, List.map_cons, List.map_nil]); first | done | rfl | (simp only [List.length_drop, List.length_take]; rfl) | (simp [Act.eval, IntKind.wrap_u8, IntKind.wrap_u32]; done)) ?_; (with_reducible refine (poly_rest.calls kj2 2 a0 t154 _ A8.out).mono ?_); rintro e w' ⟨rfl, ⟨nd, rfl⟩⟩; refine ⟨_, rfl, ?_⟩))
          go_loopg [6, 7] kj2 (fun kq v6 v7 w' => ∃ (x6_2 : Int) (x7_2 : Int), v6 = .int .u64 x6_2 ∧ v7 = .int .i64 x7_2 ∧ Aside0 (poly_Order.l0 kq a0 t153 x6_2 x7_2 = some (r1, r2)) ∧ Aside0 (kq ≤ kj2) ∧ Drawn0 w w')
          case atStart => exact ⟨(t154), (1), (by first | rfl | (simp; done) | (simp [*]; done) | (simp [wrap64]; done)), (by first | rfl | (simp; done) | (simp [*]; done) | (simp [wrap64]; done)), H', ⟨Nat.le_refl _⟩, by repeat (first | exact Drawn0.refl _ | apply Drawn0.step)⟩
          case round =>
            clear H'
            try clear c1
            try clear c2
            try clear p2
            try clear c4
            try clear c4b0
            try clear c4b1
            try clear c5
            try clear c6
            try clear c6b0
            try clear c6b1
            try clear p6
            try clear c8
            try clear p2
            obtain ⟨x6_2, x7_2, rfl, rfl, HA, HK2, ⟨m2, rfl⟩⟩ := hrel
            cases gk with
            | zero => exact absurd HA.out (by simp [poly_Order.l0])
            | succ k2 =>
              have H := HA.out
              clear HA
              simp only [poly_Order.l0] at H
              by_cases c9 : x6_2 = t153
              · rw [if_pos c9] at H
                have c9b0 : (x6_2 == t153) = true := beq_iff_eq.mpr c9
                have c9b1 : (x6_2 != t153) = false := bne_eq_false_iff_eq.mpr c9
                clear c9
                simp only [Option.some.injEq, Prod.mk.injEq] at H
                obtain ⟨rfl, rfl⟩ := H
                go_wp2
                go_ret2
                exact ⟨by first | rfl | (simp; done) | (simp [*]; done) | (simp [wrap64]; done), by repeat (first | exact Drawn0.refl _ | apply Drawn0.step)⟩
              · rw [if_neg c9] at H
                have c9b0 : (x6_2 == t153) = false := beq_eq_false_iff_ne.mpr c9
                have c9b1 : (x6_2 != t153) = true := bne_iff_ne.mpr c9
                replace H := Option.bind_eq_some_iff.mp H
                obtain ⟨t155, A100, H⟩ := H
                replace H : (poly_Order.l0 k2 a0 t153 t155 (wrap64 (x7_2 + 1))) = some (r1, r2) := H
                have A10 := Aside0.mk A100
                clear A100
                have H' := Aside0.mk H
                clear H
                go_wp2_with (first | ((with_reducible refine gate_callee (f := 85) rfl ?_); refine goesL_ (some 29) rfl rfl Try.func85 (by kernel_rfl) rfl #[.int .u64 (IntKind.u64.wrap (x6_2 * 2)), .int .u64 a0] rfl (by (try simp only [List.map_toArray, List.map_cons, List.map_nil]); first | done | rfl | (simp only [List.length_drop, List.length_take]; rfl) | (simp [Act.eval, IntKind.wrap_u8, IntKind.wrap_u32]; done)) ?_; (with_reducible refine (poly_rest.calls k2 (IntKind.u64.wrap (x6_2 * 2)) a0 t155 _ A10.out).mono ?_); rintro e w' ⟨rfl, ⟨nd, rfl⟩⟩; refine ⟨_, rfl, ?_⟩))
                go_roundg k2
                case measure => have := HJ2.out; have := HK2.out; omega
                case rel => exact ⟨(t155), (wrap64 (x7_2 + 1)), (by first | rfl | (simp; done) | (simp [*]; done) | (simp [wrap64]; done)), (by first | rfl | (simp; done) | (simp [*]; done) | (simp [wrap64]; done)), H', ⟨by have := HJ2.out; have := HK2.out; omega⟩, by repeat (first | exact Drawn0.refl _ | apply Drawn0.step)⟩

/-! ### poly_Primitive: function 93 -/
def poly_Primitive.j0 : Nat → Int → Int → Bool → Option (Bool × Int)
  | 0, _, _, _ => none
  | k + 1, x0, x4, x14 => if x14 = true then (some (false, 21)) else (if (Go.bits .and .u64 x0 1) = 0 then (some (false, 0)) else ((poly_prime.f k x0).bind fun t157 => (if t157 = true then ((poly_Order.f k x0).bind fun bt158 => (if 0 ≤ x4 then (some ((bt158.1 == (wrap64 ((shl .i64 1 x4) - 1))), 0)) else (none))) else (some (false, 0)))))
def poly_Primitive.f (k : Nat) (a0 : Int) : Option (Bool × Int) := (poly_Degree.f a0).bind fun t156 => (if t156 < 1 then (poly_Primitive.j0 k a0 t156 true) else (poly_Primitive.j0 k a0 t156 (decide (t156 > 20))))
theorem poly_Primitive.mono_l : ∀ k, (∀ y0 y1 y2, LeO (poly_Primitive.j0 k y0 y1 y2) (poly_Primitive.j0 (k + 1) y0 y1 y2))
  | 0 => fun _ _ _ r h => by simp [poly_Primitive.j0] at h
  | k + 1 => by
    have ih0 := poly_Primitive.mono_l k
    · intro y0 y1 y2
      unfold poly_Primitive.j0
      repeat' first
      | (with_reducible exact ih0 _ _ _)
      | (with_reducible exact poly_Order.mono _ _)
      | (with_reducible exact poly_prime.mono _ _)
      | (with_reducible exact LeO.refl _)
      | (with_reducible exact LeO.none _)
      | (with_reducible refine LeO.ite ?_ ?_)
      | (with_reducible refine LeO.bind ?_ (fun _ => ?_))
      | exact ih0 _ _ _
      | exact poly_Order.mono _ _
      | exact poly_prime.mono _ _
      | exact LeO.none _
      | refine LeO.ite ?_ ?_
      | refine LeO.bind ?_ (fun _ => ?_)
theorem poly_Primitive.mono : ∀ a0 k, LeO (poly_Primitive.f k a0) (poly_Primitive.f (k + 1) a0) := by
  intro a0 k
  have ih0 := poly_Primitive.mono_l k
  unfold poly_Primitive.f
  repeat' first
      | (with_reducible exact ih0 _ _ _)
      | (with_reducible exact poly_Order.mono _ _)
      | (with_reducible exact poly_prime.mono _ _)
      | (with_reducible exact LeO.refl _)
      | (with_reducible exact LeO.none _)
      | (with_reducible refine LeO.ite ?_ ?_)
      | (with_reducible refine LeO.bind ?_ (fun _ => ?_))
      | exact ih0 _ _ _
      | exact poly_Order.mono _ _
      | exact poly_prime.mono _ _
      | exact LeO.none _
      | refine LeO.ite ?_ ?_
      | refine LeO.bind ?_ (fun _ => ?_)
set_option maxHeartbeats 8000000 in
set_option maxRecDepth 100000 in
theorem poly_Primitive.calls (k : Nat) (a0 : Int) (r1 : Bool) (r2 : Int) (w : World) (h : poly_Primitive.f k a0 = some (r1, r2)) :
    Calls Try.prog 93 #[.int .u64 a0] w fun e w' => e = .returned (.tuple #[.bool r1, .int .i64 r2]) ∧ Drawn0 w w' := by
  have H : ((poly_Degree.f a0).bind fun t156 => (if t156 < 1 then (poly_Primitive.j0 k a0 t156 true) else (poly_Primitive.j0 k a0 t156 (decide (t156 > 20))))) = some (r1, r2) := h
  clear h
  replace H := Option.bind_eq_some_iff.mp H
  obtain ⟨t156, A20, H⟩ := H
  replace H : (if t156 < 1 then (poly_Primitive.j0 k a0 t156 true) else (poly_Primitive.j0 k a0 t156 (decide (t156 > 20)))) = some (r1, r2) := H
  have A2 := Aside0.mk A20
  clear A20
  have HC3 := Aside0.mk H
  clear H
  go_enter Try.func93, Try.ntmps93
  go_upto_region 2 with (first | ((with_reducible refine gate_callee (f := 47) rfl ?_); refine goesL_ (some 8) rfl rfl Try.func47 (by kernel_rfl) rfl #[.int .u64 a0] rfl (by (try simp only [List.map_toArray, List.map_cons, List.map_nil]); first | done | rfl | (simp only [List.length_drop, List.length_take]; rfl) | (simp [Act.eval, IntKind.wrap_u8, IntKind.wrap_u32]; done)) ?_; (with_reducible refine (poly_Degree.calls a0 t156 _ A2.out).mono ?_); rintro e w' ⟨rfl, ⟨nd, rfl⟩⟩; refine ⟨_, rfl, ?_⟩))
  (try simp only [Act.put, List.setIfInBounds_toArray, List.set_cons_zero, List.set_cons_succ])
  go_cut [14] (fun v14 wc => ∃ (kq : Nat) (x14_2 : Bool), v14 = .bool x14_2 ∧ Aside0 (poly_Primitive.j0 kq a0 t156 x14_2 = some (r1, r2)) ∧ Aside0 (kq ≤ k) ∧ Drawn0 w wc)
  case first =>
    have H := HC3.out
    clear HC3
    by_cases c4 : t156 < 1
    · rw [if_pos c4] at H
      have c4b0 : decide (t156 < 1) = true := decide_eq_true c4
      clear c4
      (first | rw [c4b0] | (simp only [i64_w, i32_w]; rw [c4b0]) | rw [c4b1] | skip)
      have H' := Aside0.mk H
      clear H
      go_wp2
      go_meet
      case rel => exact ⟨_, (true), (by first | rfl | (simp; done) | (simp [*]; done) | (simp [wrap64]; done)), H', ⟨by first | omega | exact Nat.le_refl _⟩, by repeat (first | exact Drawn0.refl _ | apply Drawn0.step)⟩
    · rw [if_neg c4] at H
      have c4b0 : decide (t156 < 1) = false := decide_eq_false c4
      clear c4
      (first | rw [c4b0] | (simp only [i64_w, i32_w]; rw [c4b0]) | rw [c4b1] | skip)
      have H' := Aside0.mk H
      clear H
      go_wp2
      go_meet
      case rel => exact ⟨_, (decide (t156 > 20)), (by first | rfl | (simp; done) | (simp [*]; done) | (simp [wrap64]; done)), H', ⟨by first | omega | exact Nat.le_refl _⟩, by repeat (first | exact Drawn0.refl _ | apply Drawn0.step)⟩
  case rest =>
    clear HC3
    try clear p2
    try clear c4
    try clear c4b0
    try clear c4b1
    obtain ⟨kq, x14_2, rfl, HA, HJ2, ⟨mc2, rfl⟩⟩ := hcut
    cases kq with
    | zero => exact absurd HA.out (by simp [poly_Primitive.j0])
    | succ kj2 =>
      have H := HA.out
      clear HA
      simp only [poly_Primitive.j0] at H
      by_cases c5 : x14_2 = true
      · subst c5
        have H1 : (some (false, 21)) = some (r1, r2) := by rw [if_pos rfl] at H; exact H
        clear H
        have H := H1
        clear H1
        simp only [Option.some.injEq, Prod.mk.injEq] at H
        obtain ⟨rfl, rfl⟩ := H
        go_wp2
        go_ret2
        exact ⟨by first | rfl | (simp; done) | (simp [*]; done) | (simp [wrap64]; done), by repeat (first | exact Drawn0.refl _ | apply Drawn0.step)⟩
      · replace c5 := Bool.eq_false_iff.mpr c5
        subst c5
        have H1 : (if (Go.bits .and .u64 a0 1) = 0 then (some (false, 0)) else ((poly_prime.f kj2 a0).bind fun t157 => (if t157 = true then ((poly_Order.f kj2 a0).bind fun bt158 => (if 0 ≤ t156 then (some ((bt158.1 == (wrap64 ((shl .i64 1 t156) - 1))), 0)) else (none))) else (some (false, 0))))) = some (r1, r2) := by rw [if_neg (show ¬ (false = true) by decide)] at H; exact H
        clear H
        have H := H1
        clear H1
        by_cases c6 : (Go.bits .and .u64 a0 1) = 0
        · rw [if_pos c6] at H
          have c6b0 : ((Go.bits .and .u64 a0 1) == 0) = true := beq_iff_eq.mpr c6
          have c6b1 : ((Go.bits .and .u64 a0 1) != 0) = false := bne_eq_false_iff_eq.mpr c6
          clear c6
          simp only [Option.some.injEq, Prod.mk.injEq] at H
          obtain ⟨rfl, rfl⟩ := H
          go_wp2
          go_ret2
          exact ⟨by first | rfl | (simp; done) | (simp [*]; done) | (simp [wrap64]; done), by repeat (first | exact Drawn0.refl _ | apply Drawn0.step)⟩
        · rw [if_neg c6] at H
          have c6b0 : ((Go.bits .and .u64 a0 1) == 0) = false := beq_eq_false_iff_ne.mpr c6
          have c6b1 : ((Go.bits .and .u64 a0 1) != 0) = true := bne_iff_ne.mpr c6
          replace H := Option.bind_eq_some_iff.mp H
          obtain ⟨t157, A70, H⟩ := H
          replace H : (if t157 = true then ((poly_Order.f kj2 a0).bind fun bt158 => (if 0 ≤ t156 then (some ((bt158.1 == (wrap64 ((shl .i64 1 t156) - 1))), 0)) else (none))) else (some (false, 0))) = some (r1, r2) := H
          have A7 := Aside0.mk A70
          clear A70
          by_cases c8 : t157 = true
          · subst c8
            have H1 : ((poly_Order.f kj2 a0).bind fun bt158 => (if 0 ≤ t156 then (some ((bt158.1 == (wrap64 ((shl .i64 1 t156) - 1))), 0)) else (none))) = some (r1, r2) := by rw [if_pos rfl] at H; exact H
            clear H
            have H := H1
            clear H1
            replace H := Option.bind_eq_some_iff.mp H
            obtain ⟨⟨t158, t159⟩, A90, H⟩ := H
            replace H : (if 0 ≤ t156 then (some ((t158 == (wrap64 ((shl .i64 1 t156) - 1))), 0)) else (none)) = some (r1, r2) := H
            have A9 := Aside0.mk A90
            clear A90
            by_cases c10 : 0 ≤ t156
            · rw [if_pos c10] at H
              have c10b0 := eq_true c10
              have c10b1 : decide (0 ≤ t156) = true := decide_eq_true c10
              clear c10
              obtain ⟨ji11, hji11⟩ : ∃ j_ : Int, (shl .i64 1 t156) = j_ := ⟨_, rfl⟩
              replace H : (some ((t158 == (wrap64 ((ji11) - 1))), 0)) = some (r1, r2) := by first | (rw [hji11] at H; exact H) | (simp only [hji11] at H ⊢; exact H)
              (try rw [hji11] at A7)
              (try rw [hji11] at A9)
              have hji11_ : (IntKind.i64.wrap (1 * 2 ^ min t156.toNat 64)) = ji11 := hji11
              have hji11z : t156 ≤ 64 → (IntKind.i64.wrap (1 * 2 ^ t156.toNat)) = ji11 := shl_small hji11
              have hji11u : (IntKind.i64.wrap (2 ^ min t156.toNat 64)) = ji11 := by have h_ := hji11_; rw [Int.one_mul] at h_; exact h_
              have hji11v : t156 ≤ 64 → (IntKind.i64.wrap (2 ^ t156.toNat)) = ji11 := fun hle_ => by have h_ := hji11z hle_; rw [Int.one_mul] at h_; exact h_
              have hji11y : (wrap64 (1 * 2 ^ min t156.toNat 64)) = ji11 := (i64_w _).symm.trans hji11_
              have hji11x : t156 ≤ 64 → (wrap64 (1 * 2 ^ t156.toNat)) = ji11 := fun h_ => (i64_w _).symm.trans (hji11z h_)
              simp only [Option.some.injEq, Prod.mk.injEq] at H
              obtain ⟨rfl, rfl⟩ := H
              go_wp2_with (first | (go_at_call 82; (with_reducible refine (poly_prime.calls kj2 a0 true _ A7.out).mono ?_); rintro e w' ⟨rfl, ⟨nd, rfl⟩⟩) | ((with_reducible refine gate_callee (f := 100) rfl ?_); refine goesL_ (some 25) rfl rfl Try.func100 (by kernel_rfl) rfl #[.int .u64 a0] rfl (by (try simp only [List.map_toArray, List.map_cons, List.map_nil]); first | done | rfl | (simp only [List.length_drop, List.length_take]; rfl) | (simp [Act.eval, IntKind.wrap_u8, IntKind.wrap_u32]; done)) ?_; (with_reducible refine (poly_Order.calls kj2 a0 t158 t159 _ A9.out).mono ?_); rintro e w' ⟨rfl, ⟨nd, rfl⟩⟩; refine ⟨_, rfl, ?_⟩))
              go_ret2
              exact ⟨by first | rfl | (simp; done) | (simp only [← hji11] <;> (first | rfl | simp)) | (simp [*]; done) | (simp [wrap64]; done), by repeat (first | exact Drawn0.refl _ | apply Drawn0.step)⟩
            · rw [if_neg c10] at H
              exact absurd H (by simp)
          · replace c8 := Bool.eq_false_iff.mpr c8
            subst c8
            have H1 : (some (false, 0)) = some (r1, r2) := by rw [if_neg (show ¬ (false = true) by decide)] at H; exact H
            clear H
            have H := H1
            clear H1
            simp only [Option.some.injEq, Prod.mk.injEq] at H
            obtain ⟨rfl, rfl⟩ := H
            go_wp2_with (first | (go_at_call 82; (with_reducible refine (poly_prime.calls kj2 a0 false _ A7.out).mono ?_); rintro e w' ⟨rfl, ⟨nd, rfl⟩⟩))
            go_ret2
            exact ⟨by first | rfl | (simp; done) | (simp [*]; done) | (simp [wrap64]; done), by repeat (first | exact Drawn0.refl _ | apply Drawn0.step)⟩

/-! ### galois_Check: function 60 -/
def galois_Check.j0 : Nat → Bool → Int → Int → Option (Int)
  | 0, _, _, _ => none
  | k + 1, x20, x161000, x161001 => if x20 = true then (some 320) else ((poly_Primitive.f k x161001).bind fun bt162 => (if bt162.2 = 0 then (if bt162.1 = true then (some 0) else (some 320)) else (some 320)))
def galois_Check.f (k : Nat) (a0_0 : Int) (a0_1 : Int) : Option (Int) := if a0_0 < 3 then (galois_Check.j0 k true a0_0 a0_1) else (if a0_0 > 8 then (galois_Check.j0 k true a0_0 a0_1) else ((poly_Degree.f a0_1).bind fun t161 => (galois_Check.j0 k (t161 != a0_0) a0_0 a0_1)))
theorem galois_Check.mono_l : ∀ k, (∀ y0 y1 y2, LeO (galois_Check.j0 k y0 y1 y2) (galois_Check.j0 (k + 1) y0 y1 y2))
  | 0 => fun _ _ _ r h => by simp [galois_Check.j0] at h
  | k + 1 => by
    have ih0 := galois_Check.mono_l k
    · intro y0 y1 y2
      unfold galois_Check.j0
      repeat' first
      | (with_reducible exact ih0 _ _ _)
      | (with_reducible exact poly_Primitive.mono _ _)
      | (with_reducible exact LeO.refl _)
      | (with_reducible exact LeO.none _)
      | (with_reducible refine LeO.ite ?_ ?_)
      | (with_reducible refine LeO.bind ?_ (fun _ => ?_))
      | exact ih0 _ _ _
      | exact poly_Primitive.mono _ _
      | exact LeO.none _
      | refine LeO.ite ?_ ?_
      | refine LeO.bind ?_ (fun _ => ?_)
theorem galois_Check.mono : ∀ a0 a1 k, LeO (galois_Check.f k a0 a1) (galois_Check.f (k + 1) a0 a1) := by
  intro a0 a1 k
  have ih0 := galois_Check.mono_l k
  unfold galois_Check.f
  repeat' first
      | (with_reducible exact ih0 _ _ _)
      | (with_reducible exact poly_Primitive.mono _ _)
      | (with_reducible exact LeO.refl _)
      | (with_reducible exact LeO.none _)
      | (with_reducible refine LeO.ite ?_ ?_)
      | (with_reducible refine LeO.bind ?_ (fun _ => ?_))
      | exact ih0 _ _ _
      | exact poly_Primitive.mono _ _
      | exact LeO.none _
      | refine LeO.ite ?_ ?_
      | refine LeO.bind ?_ (fun _ => ?_)
set_option maxHeartbeats 8000000 in
set_option maxRecDepth 100000 in
theorem galois_Check.calls (k : Nat) (a0_0 : Int) (a0_1 : Int) (r : Int) (w : World) (h : galois_Check.f k a0_0 a0_1 = some r) :
    Calls Try.prog 60 #[.agg #[.int .i64 a0_0, .int .u64 a0_1]] w fun e w' => e = .returned (.int .i64 r) ∧ Below w.heap.size w w' := by
  have hu24 := Try.underlying24
  have HB := Aside0.mk (Below.refl w.heap.size w)
  have H : (if a0_0 < 3 then (galois_Check.j0 k true a0_0 a0_1) else (if a0_0 > 8 then (galois_Check.j0 k true a0_0 a0_1) else ((poly_Degree.f a0_1).bind fun t161 => (galois_Check.j0 k (t161 != a0_0) a0_0 a0_1)))) = some r := h
  clear h
  have HC2 := Aside0.mk H
  clear H
  go_enter Try.func60, Try.ntmps60
  go_upto_region 1 with (first | ((with_reducible refine gate_dst (N := 1) rfl ?_); refine box_event ?hg (N := 1) ?hd (cs := #[.int .i64 a0_0, .int .u64 a0_1]) (t := 24) ?hr ?_; (case hd => rfl); (case hg => rfl); (case hr => first | (go_simp; done) | (go_simp; rfl)); intro gb160 hg w3 hbox hb; have n0_ := Aside0.mk (below_step (by repeat (first | (with_reducible first | exact HB.out | apply below_alloc | apply pw_below_drewN | apply below_drew1) | exact HB.out)) hb); have n1_ := Aside0.mk (hbox); have n2_ := Aside0.mk ((by rw [hg]; exact (below_size (by repeat (first | (with_reducible first | exact HB.out | apply below_alloc | apply pw_below_drewN | apply below_drew1) | exact HB.out))) : w.heap.size ≤ gb160)); have n3_ := Aside0.mk ((by rw [hg]; exact (below_size (by repeat (first | (with_reducible first | exact HB.out | apply below_alloc | apply pw_below_drewN | apply below_drew1) | exact HB.out))) : w.heap.size ≤ gb160)); clear HB; have HB := n0_; have BK160 := n1_; have GW160 := n2_; have GE160 := n3_; clear n0_ n1_ n2_ n3_; clear hb hbox hg))
  repeat (go_quiet (first | ((with_reducible refine gate_dst (N := 1) rfl ?_); refine box_event ?hg (N := 1) ?hd (cs := #[.int .i64 a0_0, .int .u64 a0_1]) (t := 24) ?hr ?_; (case hd => rfl); (case hg => rfl); (case hr => first | (go_simp; done) | (go_simp; rfl)); intro gb160 hg w3 hbox hb; have n0_ := Aside0.mk (below_step (by repeat (first | (with_reducible first | exact HB.out | apply below_alloc | apply pw_below_drewN | apply below_drew1) | exact HB.out)) hb); have n1_ := Aside0.mk (hbox); have n2_ := Aside0.mk ((by rw [hg]; exact (below_size (by repeat (first | (with_reducible first | exact HB.out | apply below_alloc | apply pw_below_drewN | apply below_drew1) | exact HB.out))) : w.heap.size ≤ gb160)); have n3_ := Aside0.mk ((by rw [hg]; exact (below_size (by repeat (first | (with_reducible first | exact HB.out | apply below_alloc | apply pw_below_drewN | apply below_drew1) | exact HB.out))) : w.heap.size ≤ gb160)); clear HB; have HB := n0_; have BK160 := n1_; have GW160 := n2_; have GE160 := n3_; clear n0_ n1_ n2_ n3_; clear hb hbox hg)); go_upto_region 1 with (first | ((with_reducible refine gate_dst (N := 1) rfl ?_); refine box_event ?hg (N := 1) ?hd (cs := #[.int .i64 a0_0, .int .u64 a0_1]) (t := 24) ?hr ?_; (case hd => rfl); (case hg => rfl); (case hr => first | (go_simp; done) | (go_simp; rfl)); intro gb160 hg w3 hbox hb; have n0_ := Aside0.mk (below_step (by repeat (first | (with_reducible first | exact HB.out | apply below_alloc | apply pw_below_drewN | apply below_drew1) | exact HB.out)) hb); have n1_ := Aside0.mk (hbox); have n2_ := Aside0.mk ((by rw [hg]; exact (below_size (by repeat (first | (with_reducible first | exact HB.out | apply below_alloc | apply pw_below_drewN | apply below_drew1) | exact HB.out))) : w.heap.size ≤ gb160)); have n3_ := Aside0.mk ((by rw [hg]; exact (below_size (by repeat (first | (with_reducible first | exact HB.out | apply below_alloc | apply pw_below_drewN | apply below_drew1) | exact HB.out))) : w.heap.size ≤ gb160)); clear HB; have HB := n0_; have BK160 := n1_; have GW160 := n2_; have GE160 := n3_; clear n0_ n1_ n2_ n3_; clear hb hbox hg)))
  (try simp only [Act.put, List.setIfInBounds_toArray, List.set_cons_zero, List.set_cons_succ])
  go_cut [20] (fun v20 wc => ∃ (kq : Nat) (x20_1 : Bool), v20 = .bool x20_1 ∧ Aside0 (galois_Check.j0 kq x20_1 a0_0 a0_1 = some r) ∧ Aside0 (kq ≤ k) ∧ Aside0 (wc.heap[gb160]? = some (.cells #[.int .i64 a0_0, .int .u64 a0_1] 24 (0, 0))) ∧ Aside0 (Below w.heap.size w wc))
  case first =>
    have H := HC2.out
    clear HC2
    by_cases c4 : a0_0 < 3
    · rw [if_pos c4] at H
      have c4b0 : decide (a0_0 < 3) = true := decide_eq_true c4
      clear c4
      (first | rw [c4b0] | (simp only [i64_w, i32_w]; rw [c4b0]) | rw [c4b1] | skip)
      have H' := Aside0.mk H
      clear H
      have hcz5_0 : w3.cell? ⟨gb160, 0, none⟩ = some (.int .i64 a0_0) := (blk_cell BK160.out 0).trans rfl
      have hcz5_1 : w3.cell? ⟨gb160, 1, none⟩ = some (.int .u64 a0_1) := (blk_cell BK160.out 1).trans rfl
      have hfz5_0 := blk_frozen BK160.out 0
      have hfz5_1 := blk_frozen BK160.out 1
      go_wp2
      repeat (go_quiet (fail); try go_wp2)
      go_meet
      case rel => exact ⟨_, (true), (by first | rfl | (simp; done) | (simp [*]; done) | (simp [wrap64]; done)), H', ⟨by first | omega | exact Nat.le_refl _⟩, ⟨by (with_reducible repeat (first | refine blk_drewN ?_ _ | refine blk_drew ?_ | refine blk_alloc ?_ _)); exact BK160.out⟩, ⟨by repeat (first | (with_reducible first | exact HB.out | apply below_alloc | apply pw_below_drewN | apply below_drew1 | refine below_set ?_ GE160.out) | exact HB.out)⟩⟩
    · rw [if_neg c4] at H
      have c4b0 : decide (a0_0 < 3) = false := decide_eq_false c4
      clear c4
      (first | rw [c4b0] | (simp only [i64_w, i32_w]; rw [c4b0]) | rw [c4b1] | skip)
      by_cases c6 : a0_0 > 8
      · rw [if_pos c6] at H
        have c6b0 : decide (8 < a0_0) = true := decide_eq_true c6
        clear c6
        have H' := Aside0.mk H
        clear H
        have hcz7_0 : w3.cell? ⟨gb160, 0, none⟩ = some (.int .i64 a0_0) := (blk_cell BK160.out 0).trans rfl
        have hcz7_1 : w3.cell? ⟨gb160, 1, none⟩ = some (.int .u64 a0_1) := (blk_cell BK160.out 1).trans rfl
        have hfz7_0 := blk_frozen BK160.out 0
        have hfz7_1 := blk_frozen BK160.out 1
        go_wp2
        repeat (go_quiet (fail); try go_wp2)
        go_meet
        case rel => exact ⟨_, (true), (by first | rfl | (simp; done) | (simp [*]; done) | (simp [wrap64]; done)), H', ⟨by first | omega | exact Nat.le_refl _⟩, ⟨by (with_reducible repeat (first | refine blk_drewN ?_ _ | refine blk_drew ?_ | refine blk_alloc ?_ _)); exact BK160.out⟩, ⟨by repeat (first | (with_reducible first | exact HB.out | apply below_alloc | apply pw_below_drewN | apply below_drew1 | refine below_set ?_ GE160.out) | exact HB.out)⟩⟩
      · rw [if_neg c6] at H
        have c6b0 : decide (8 < a0_0) = false := decide_eq_false c6
        clear c6
        replace H := Option.bind_eq_some_iff.mp H
        obtain ⟨t161, A80, H⟩ := H
        replace H : (galois_Check.j0 k (t161 != a0_0) a0_0 a0_1) = some r := H
        have A8 := Aside0.mk A80
        clear A80
        have H' := Aside0.mk H
        clear H
        have hcz9_0 : w3.cell? ⟨gb160, 0, none⟩ = some (.int .i64 a0_0) := (blk_cell BK160.out 0).trans rfl
        have hcz9_1 : w3.cell? ⟨gb160, 1, none⟩ = some (.int .u64 a0_1) := (blk_cell BK160.out 1).trans rfl
        have hfz9_0 := blk_frozen BK160.out 0
        have hfz9_1 := blk_frozen BK160.out 1
        go_wp2_with (first | (go_at_call 47; (with_reducible refine (poly_Degree.calls a0_1 t161 _ A8.out).mono ?_); rintro e w' ⟨rfl, ⟨nd, rfl⟩⟩; (try first | exact ⟨rfl, _, World.drewN_drewN _ _ _⟩ | exact ⟨rfl, _, Eq.trans (World.drewN_drewN _ _ _) (congrArg (World.drewN _) (Nat.add_assoc _ _ _))⟩)))
        repeat (go_quiet (first | (go_at_call 47; (with_reducible refine (poly_Degree.calls a0_1 t161 _ A8.out).mono ?_); rintro e w' ⟨rfl, ⟨nd, rfl⟩⟩; (try first | exact ⟨rfl, _, World.drewN_drewN _ _ _⟩ | exact ⟨rfl, _, Eq.trans (World.drewN_drewN _ _ _) (congrArg (World.drewN _) (Nat.add_assoc _ _ _))⟩))); try go_wp2_with (first | (go_at_call 47; (with_reducible refine (poly_Degree.calls a0_1 t161 _ A8.out).mono ?_); rintro e w' ⟨rfl, ⟨nd, rfl⟩⟩; (try first | exact ⟨rfl, _, World.drewN_drewN _ _ _⟩ | exact ⟨rfl, _, Eq.trans (World.drewN_drewN _ _ _) (congrArg (World.drewN _) (Nat.add_assoc _ _ _))⟩))))
        go_meet
        case rel => exact ⟨_, ((t161 != a0_0)), (by first | rfl | (simp; done) | (simp [*]; done) | (simp [wrap64]; done)), H', ⟨by first | omega | exact Nat.le_refl _⟩, ⟨by (with_reducible repeat (first | refine blk_drewN ?_ _ | refine blk_drew ?_ | refine blk_alloc ?_ _)); exact BK160.out⟩, ⟨by repeat (first | (with_reducible first | exact HB.out | apply below_alloc | apply pw_below_drewN | apply below_drew1 | refine below_set ?_ GE160.out) | exact HB.out)⟩⟩
  case rest =>
    clear HC2
    try clear p2
    try clear c4
    try clear c4b0
    try clear c4b1
    try clear c6
    try clear c6b0
    try clear p6
    try clear hcz5_0
    try clear hcz5_1
    try clear hcz7_0
    try clear hcz7_1
    try clear hcz9_0
    try clear hcz9_1
    try clear hfz5_0
    try clear hfz5_1
    try clear hfz7_0
    try clear hfz7_1
    try clear hfz9_0
    try clear hfz9_1
    obtain ⟨kq, x20_1, rfl, HA, HJ1, BK160, HB⟩ := hcut
    cases kq with
    | zero => exact absurd HA.out (by simp [galois_Check.j0])
    | succ kj1 =>
      have H := HA.out
      clear HA
      simp only [galois_Check.j0] at H
      by_cases c10 : x20_1 = true
      · subst c10
        have H1 : (some 320) = some r := by rw [if_pos rfl] at H; exact H
        clear H
        have H := H1
        clear H1
        obtain rfl := Option.some.inj H
        go_wp2
        repeat (go_quiet (fail); try go_wp2)
        go_ret
        exact ⟨by first | rfl | (simp [errW_none, errW_some] <;> rfl) | (simp [*, errW_none, errW_some] <;> rfl), by repeat (first | (with_reducible first | exact HB.out | apply below_alloc | apply pw_below_drewN | apply below_drew1 | refine below_set ?_ GE160.out) | exact HB.out)⟩
      · replace c10 := Bool.eq_false_iff.mpr c10
        subst c10
        have H1 : ((poly_Primitive.f kj1 a0_1).bind fun bt162 => (if bt162.2 = 0 then (if bt162.1 = true then (some 0) else (some 320)) else (some 320))) = some r := by rw [if_neg (show ¬ (false = true) by decide)] at H; exact H
        clear H
        have H := H1
        clear H1
        replace H := Option.bind_eq_some_iff.mp H
        obtain ⟨⟨t162, t163⟩, A110, H⟩ := H
        replace H : (if t163 = 0 then (if t162 = true then (some 0) else (some 320)) else (some 320)) = some r := H
        have A11 := Aside0.mk A110
        clear A110
        by_cases c12 : t163 = 0
        · rw [if_pos c12] at H
          have c12b0 : (t163 == 0) = true := beq_iff_eq.mpr c12
          have c12b1 : (t163 != 0) = false := bne_eq_false_iff_eq.mpr c12
          clear c12
          by_cases c13 : t162 = true
          · subst c13
            have H1 : (some 0) = some r := by rw [if_pos rfl] at H; exact H
            clear H
            have H := H1
            clear H1
            obtain rfl := Option.some.inj H
            have hcz14_0 : wc.cell? ⟨gb160, 0, none⟩ = some (.int .i64 a0_0) := (blk_cell BK160.out 0).trans rfl
            have hcz14_1 : wc.cell? ⟨gb160, 1, none⟩ = some (.int .u64 a0_1) := (blk_cell BK160.out 1).trans rfl
            have hfz14_0 := blk_frozen BK160.out 0
            have hfz14_1 := blk_frozen BK160.out 1
            go_wp2_with (first | (go_at_call 93; (with_reducible refine (poly_Primitive.calls kj1 a0_1 true t163 _ A11.out).mono ?_); rintro e w' ⟨rfl, ⟨nd, rfl⟩⟩; (try first | exact ⟨rfl, _, World.drewN_drewN _ _ _⟩ | exact ⟨rfl, _, Eq.trans (World.drewN_drewN _ _ _) (congrArg (World.drewN _) (Nat.add_assoc _ _ _))⟩)))
            repeat (go_quiet (first | (go_at_call 93; (with_reducible refine (poly_Primitive.calls kj1 a0_1 true t163 _ A11.out).mono ?_); rintro e w' ⟨rfl, ⟨nd, rfl⟩⟩; (try first | exact ⟨rfl, _, World.drewN_drewN _ _ _⟩ | exact ⟨rfl, _, Eq.trans (World.drewN_drewN _ _ _) (congrArg (World.drewN _) (Nat.add_assoc _ _ _))⟩))); try go_wp2_with (first | (go_at_call 93; (with_reducible refine (poly_Primitive.calls kj1 a0_1 true t163 _ A11.out).mono ?_); rintro e w' ⟨rfl, ⟨nd, rfl⟩⟩; (try first | exact ⟨rfl, _, World.drewN_drewN _ _ _⟩ | exact ⟨rfl, _, Eq.trans (World.drewN_drewN _ _ _) (congrArg (World.drewN _) (Nat.add_assoc _ _ _))⟩))))
            go_ret
            exact ⟨by first | rfl | (simp [errW_none, errW_some] <;> rfl) | (simp [*, errW_none, errW_some] <;> rfl), by repeat (first | (with_reducible first | exact HB.out | apply below_alloc | apply pw_below_drewN | apply below_drew1 | refine below_set ?_ GE160.out) | exact HB.out)⟩
          · replace c13 := Bool.eq_false_iff.mpr c13
            subst c13
            have H1 : (some 320) = some r := by rw [if_neg (show ¬ (false = true) by decide)] at H; exact H
            clear H
            have H := H1
            clear H1
            obtain rfl := Option.some.inj H
            have hcz15_0 : wc.cell? ⟨gb160, 0, none⟩ = some (.int .i64 a0_0) := (blk_cell BK160.out 0).trans rfl
            have hcz15_1 : wc.cell? ⟨gb160, 1, none⟩ = some (.int .u64 a0_1) := (blk_cell BK160.out 1).trans rfl
            have hfz15_0 := blk_frozen BK160.out 0
            have hfz15_1 := blk_frozen BK160.out 1
            go_wp2_with (first | (go_at_call 93; (with_reducible refine (poly_Primitive.calls kj1 a0_1 false t163 _ A11.out).mono ?_); rintro e w' ⟨rfl, ⟨nd, rfl⟩⟩; (try first | exact ⟨rfl, _, World.drewN_drewN _ _ _⟩ | exact ⟨rfl, _, Eq.trans (World.drewN_drewN _ _ _) (congrArg (World.drewN _) (Nat.add_assoc _ _ _))⟩)))
            repeat (go_quiet (first | (go_at_call 93; (with_reducible refine (poly_Primitive.calls kj1 a0_1 false t163 _ A11.out).mono ?_); rintro e w' ⟨rfl, ⟨nd, rfl⟩⟩; (try first | exact ⟨rfl, _, World.drewN_drewN _ _ _⟩ | exact ⟨rfl, _, Eq.trans (World.drewN_drewN _ _ _) (congrArg (World.drewN _) (Nat.add_assoc _ _ _))⟩))); try go_wp2_with (first | (go_at_call 93; (with_reducible refine (poly_Primitive.calls kj1 a0_1 false t163 _ A11.out).mono ?_); rintro e w' ⟨rfl, ⟨nd, rfl⟩⟩; (try first | exact ⟨rfl, _, World.drewN_drewN _ _ _⟩ | exact ⟨rfl, _, Eq.trans (World.drewN_drewN _ _ _) (congrArg (World.drewN _) (Nat.add_assoc _ _ _))⟩))))
            go_ret
            exact ⟨by first | rfl | (simp [errW_none, errW_some] <;> rfl) | (simp [*, errW_none, errW_some] <;> rfl), by repeat (first | (with_reducible first | exact HB.out | apply below_alloc | apply pw_below_drewN | apply below_drew1 | refine below_set ?_ GE160.out) | exact HB.out)⟩
        · rw [if_neg c12] at H
          have c12b0 : (t163 == 0) = false := beq_eq_false_iff_ne.mpr c12
          have c12b1 : (t163 != 0) = true := bne_iff_ne.mpr c12
          obtain rfl := Option.some.inj H
          have hcz16_0 : wc.cell? ⟨gb160, 0, none⟩ = some (.int .i64 a0_0) := (blk_cell BK160.out 0).trans rfl
          have hcz16_1 : wc.cell? ⟨gb160, 1, none⟩ = some (.int .u64 a0_1) := (blk_cell BK160.out 1).trans rfl
          have hfz16_0 := blk_frozen BK160.out 0
          have hfz16_1 := blk_frozen BK160.out 1
          go_wp2_with (first | (go_at_call 93; (with_reducible refine (poly_Primitive.calls kj1 a0_1 t162 t163 _ A11.out).mono ?_); rintro e w' ⟨rfl, ⟨nd, rfl⟩⟩; (try first | exact ⟨rfl, _, World.drewN_drewN _ _ _⟩ | exact ⟨rfl, _, Eq.trans (World.drewN_drewN _ _ _) (congrArg (World.drewN _) (Nat.add_assoc _ _ _))⟩)))
          repeat (go_quiet (first | (go_at_call 93; (with_reducible refine (poly_Primitive.calls kj1 a0_1 t162 t163 _ A11.out).mono ?_); rintro e w' ⟨rfl, ⟨nd, rfl⟩⟩; (try first | exact ⟨rfl, _, World.drewN_drewN _ _ _⟩ | exact ⟨rfl, _, Eq.trans (World.drewN_drewN _ _ _) (congrArg (World.drewN _) (Nat.add_assoc _ _ _))⟩))); try go_wp2_with (first | (go_at_call 93; (with_reducible refine (poly_Primitive.calls kj1 a0_1 t162 t163 _ A11.out).mono ?_); rintro e w' ⟨rfl, ⟨nd, rfl⟩⟩; (try first | exact ⟨rfl, _, World.drewN_drewN _ _ _⟩ | exact ⟨rfl, _, Eq.trans (World.drewN_drewN _ _ _) (congrArg (World.drewN _) (Nat.add_assoc _ _ _))⟩))))
          go_ret
          exact ⟨by first | rfl | (simp [errW_none, errW_some] <;> rfl) | (simp [*, errW_none, errW_some] <;> rfl), by repeat (first | (with_reducible first | exact HB.out | apply below_alloc | apply pw_below_drewN | apply below_drew1 | refine below_set ?_ GE160.out) | exact HB.out)⟩

/-! ### galois_New: function 58, given -/
def galois_New.f (k : Nat) (a0_0 a0_1 : Int) : Option (GTab × Int) :=
  (galois_Check.f k a0_0 a0_1).bind fun e => if e = 0 then (if 3 ≤ a0_0 ∧ a0_0 ≤ 8 ∧ 0 ≤ a0_1 ∧ a0_1 < 512 ∧ ∀ n, n < 2 ^ a0_0.toNat → gxn a0_1.toNat (2 ^ a0_0.toNat) n < 2 ^ a0_0.toNat then some (GTab.of a0_1.toNat (2 ^ a0_0.toNat), 0) else none) else some (GTab.none, e)
theorem galois_New.mono : ∀ a0 a1 k, LeO (galois_New.f k a0 a1) (galois_New.f (k + 1) a0 a1) := by
  intro a0 a1 k
  unfold galois_New.f
  refine LeO.bind (galois_Check.mono _ _ _) (fun _ => LeO.refl _)
/-- A field's tables, where they are made: all nothing. -/
def galRow (x : Value) (A B : List Value) (z : Value) : List Value := x :: (A ++ (B ++ [z]))
theorem galRow_len (x z : Value) (A B : List Value) (ha : A.length = 256) (hb : B.length = 256) : (galRow x A B z).length = 514 := by simp [galRow, ha, hb]
theorem galRow_a (x z : Value) (A B : List Value) (ha : A.length = 256) (k : Nat) (hk : k < 256) : (galRow x A B z)[1 + k]? = A[k]? := by
  unfold galRow
  rw [Nat.add_comm 1 k, List.getElem?_cons_succ, List.getElem?_append_left (by omega)]
theorem galRow_b (x z : Value) (A B : List Value) (ha : A.length = 256) (hb : B.length = 256) (k : Nat) (hk : k < 256) : (galRow x A B z)[257 + k]? = B[k]? := by
  unfold galRow
  rw [show 257 + k = (256 + k) + 1 by omega, List.getElem?_cons_succ, List.getElem?_append_right (by omega), List.getElem?_append_left (by omega), ha, Nat.add_sub_cancel_left]
theorem galZero_eq : Try.zeroCells88 = (galRow (.int .i64 0) (List.replicate 256 (.int .u8 0)) (List.replicate 256 (.int .i64 0)) .nilFunc).toArray := by kernel_rfl
/-- The tables with n powers laid. -/
def galPart (P sz n : Nat) (cs : Array Value) : Prop :=
  cs.size = 514 ∧ cs[0]? = some (.int .i64 (sz : Int)) ∧ (∀ k, k < 256 → cs[1 + k]? = some (.int .u8 ((gxe P sz n k : Nat) : Int))) ∧ ∀ k, k < 256 → cs[257 + k]? = some (.int .i64 ((glg P sz n k : Nat) : Int))
theorem galPart_zero (P sz : Nat) : galPart P sz 0 (Try.zeroCells88.setIfInBounds 0 (.int .i64 (sz : Int))) := by
  rw [galZero_eq]
  have hl := galRow_len (.int .i64 0) .nilFunc (List.replicate 256 (.int .u8 0)) (List.replicate 256 (.int .i64 0)) List.length_replicate List.length_replicate
  refine ⟨by rw [Array.size_setIfInBounds, List.size_toArray]; exact hl, ?_, fun k hk => ?_, fun k hk => ?_⟩
  · rw [Array.getElem?_setIfInBounds_self_of_lt (by rw [List.size_toArray, hl]; omega)]
  · have e : gxe P sz 0 k = 0 := by simp [gxe]
    rw [e, Array.getElem?_setIfInBounds_ne (by omega), List.getElem?_toArray, galRow_a _ _ _ _ List.length_replicate k hk, List.getElem?_replicate, if_pos hk]
    rfl
  · have e : glg P sz 0 k = 0 := rfl
    rw [e, Array.getElem?_setIfInBounds_ne (by omega), List.getElem?_toArray, galRow_b _ _ _ _ List.length_replicate List.length_replicate k hk, List.getElem?_replicate, if_pos hk]
    rfl
theorem galPart_step {P sz n : Nat} {cs : Array Value} (h : galPart P sz n cs) (hn : n < 255) (hx : gxn P sz n < 256) :
    galPart P sz (n + 1) ((cs.setIfInBounds (1 + n) (.int .u8 ((gxn P sz n : Nat) : Int))).setIfInBounds (257 + gxn P sz n) (.int .i64 (n : Int))) := by
  obtain ⟨h1, h2, h3, h4⟩ := h
  refine ⟨by simp [h1], ?_, fun k hk => ?_, fun k hk => ?_⟩
  · rw [Array.getElem?_setIfInBounds_ne (by omega), Array.getElem?_setIfInBounds_ne (by omega)]; exact h2
  · rw [Array.getElem?_setIfInBounds_ne (by omega)]
    by_cases c : k = n
    · subst c
      rw [Array.getElem?_setIfInBounds_self_of_lt (by omega), gxe, if_pos (by omega)]
    · rw [Array.getElem?_setIfInBounds_ne (by omega), h3 k hk]
      unfold gxe
      by_cases c2 : k < n
      · rw [if_pos c2, if_pos (by omega)]
      · rw [if_neg c2, if_neg (by omega)]
  · unfold glg
    by_cases c : gxn P sz n = k
    · rw [if_pos c, c, Array.getElem?_setIfInBounds_self_of_lt (by simp; omega)]
    · rw [if_neg c, Array.getElem?_setIfInBounds_ne (by omega), Array.getElem?_setIfInBounds_ne (by omega)]
      exact h4 k hk
theorem gxe_byte (P sz n : Nat) (h : ∀ k, k < sz → gxn P sz k < sz) (hn : n < sz) (hs : sz ≤ 256) (k : Nat) : gxe P sz n k < 256 := by
  unfold gxe
  split
  · exact Nat.lt_of_lt_of_le (h k (by omega)) hs
  · omega
theorem glg_byte (P sz n x : Nat) (hn : n ≤ 256) : glg P sz n x < 256 := by
  induction n with
  | zero => simp [glg]
  | succ n ih =>
    unfold glg
    split
    · omega
    · exact ih (by omega)
theorem gal_store_nilFunc {P : Program} {w : World} {a : Addr} {m : Mode} : (store a .nilFunc m).run P w = stored P w a .nilFunc m := run_store P w a _ m rfl
theorem gal_store_func {P : Program} {w : World} {a : Addr} {m : Mode} (fn : Fn) (first captured : Array Value) : (store a (.func fn first captured) m).run P w = stored P w a (.func fn first captured) m := run_store P w a _ m rfl
attribute [local go_sem] gal_store_nilFunc gal_store_func
set_option maxHeartbeats 8000000 in
set_option maxRecDepth 100000 in
theorem galois_New.calls (k : Nat) (a0_0 a0_1 : Int) (r1 : GTab) (r2 : Int) (w : World) (h : galois_New.f k a0_0 a0_1 = some (r1, r2)) :
    Calls Try.prog 58 #[.agg #[.int .i64 a0_0, .int .u64 a0_1]] w fun e w' => ∃ A_ : Option Addr, e = .returned (.tuple #[.pointer A_, .int .i64 r2]) ∧ gal_OK w' A_ r1 ∧ Below w.heap.size w w' := by
  have hu24 := Try.underlying24
  have HB := Aside0.mk (Below.refl w.heap.size w)
  unfold galois_New.f at h
  obtain ⟨e, he, h⟩ := Option.bind_eq_some_iff.mp h
  have HE := Aside0.mk he
  clear he
  by_cases c0 : e = 0
  · rw [if_pos c0] at h
    subst c0
    by_cases c1 : 3 ≤ a0_0 ∧ a0_0 ≤ 8 ∧ 0 ≤ a0_1 ∧ a0_1 < 512 ∧ ∀ n, n < 2 ^ a0_0.toNat → gxn a0_1.toNat (2 ^ a0_0.toNat) n < 2 ^ a0_0.toNat
    · rw [if_pos c1] at h
      simp only [Option.some.injEq, Prod.mk.injEq] at h
      obtain ⟨rfl, rfl⟩ := h
      obtain ⟨m1, m2, m3, m4, m5⟩ := c1
      obtain ⟨M, rfl⟩ : ∃ M : Nat, a0_0 = (M : Int) := ⟨a0_0.toNat, by omega⟩
      obtain ⟨P, rfl⟩ : ∃ P : Nat, a0_1 = (P : Int) := ⟨a0_1.toNat, by omega⟩
      simp only [Int.toNat_natCast] at m5 ⊢
      obtain ⟨sz, hsz⟩ : ∃ sz, sz = 2 ^ M := ⟨_, rfl⟩
      rw [← hsz] at m5 ⊢
      have hsz1 : 8 ≤ sz := by rw [hsz]; exact Nat.pow_le_pow_right (n := 2) (by omega) (show 3 ≤ M by omega)
      have hsz2 : sz ≤ 256 := by rw [hsz]; exact Nat.pow_le_pow_right (n := 2) (by omega) (show M ≤ 8 by omega)
      have hsh : shl .i64 1 (M : Int) = (sz : Int) := by
        unfold shl
        rw [show min (M : Int).toNat IntKind.i64.bits = M by simp [IntKind.bits]; omega, Int.one_mul, show ((2 : Int) ^ M) = ((2 ^ M : Nat) : Int) by simp, ← hsz]
        exact IntWalk.i64_in _ (by omega)
      have hw : IntKind.i64.wrap (2 ^ M) = (sz : Int) := by
        rw [show ((2 : Int) ^ M) = ((2 ^ M : Nat) : Int) by simp, ← hsz]
        exact IntWalk.i64_in _ (by omega)
      have HM5 := Aside0.mk m5
      have HP5 : Aside0 (P < 512) := ⟨by omega⟩
      have HSZ1 := Aside0.mk hsz1
      have HSZ2 := Aside0.mk hsz2
      have hM : (M : Int) ≤ 8 := m2
      have s1 : (8 : Int) ≤ (sz : Int) := by omega
      have s2 : (sz : Int) ≤ 256 := by omega
      have hmf : ∀ (fn : Fn) (first cap : Array Value) (w : World), (Instr.makeFunc fn first cap).run Try.prog w = .ok (.func fn first cap) w := fun _ _ _ _ => rfl
      clear m1 m2 m3 m4 m5 hsz hsz1 hsz2 hsh
      go_enter Try.func58, Try.ntmps58
      go_wp2_with (first | ((with_reducible refine gate_dst (N := 1) rfl ?_); refine box_event ?hg (N := 1) ?hd (cs := #[.int .i64 (M : Int), .int .u64 (P : Int)]) (t := 24) ?hr ?_; (case hd => rfl); (case hg => rfl); (case hr => first | (go_simp; done) | (go_simp; rfl)); intro g hg_ wg hbox_ hb_; have n0_ := Aside0.mk (below_step HB.out hb_); have n1_ := Aside0.mk hbox_; have n2_ := Aside0.mk ((by rw [hg_]; exact below_size HB.out) : w.heap.size ≤ g); clear HB; have HB := n0_; have BKg := n1_; have GEg := n2_; clear n0_ n1_ n2_; clear hb_ hbox_ hg_; have hcg_0 : wg.cell? ⟨g, 0, none⟩ = some (.int .i64 (M : Int)) := (blk_cell BKg.out 0).trans rfl; have hfg_0 := blk_frozen BKg.out 0; have hcg_1 : wg.cell? ⟨g, 1, none⟩ = some (.int .u64 (P : Int)) := (blk_cell BKg.out 1).trans rfl; have hfg_1 := blk_frozen BKg.out 1) | (go_at_call 60; (with_reducible refine (galois_Check.calls k _ _ 0 _ HE.out).mono ?_); rintro e w5 ⟨rfl, hb⟩; have n0_ := Aside0.mk (below_step HB.out hb); have n1_ := Aside0.mk (blk_below BKg.out hb); clear HB BKg hcg_0 hcg_1 hfg_0 hfg_1; have HB := n0_; have BKg := n1_; clear n0_ n1_; clear hb; have hcg_0 : w5.cell? ⟨g, 0, none⟩ = some (.int .i64 (M : Int)) := (blk_cell BKg.out 0).trans rfl; have hfg_0 := blk_frozen BKg.out 0; have hcg_1 : w5.cell? ⟨g, 1, none⟩ = some (.int .u64 (P : Int)) := (blk_cell BKg.out 1).trans rfl; have hfg_1 := blk_frozen BKg.out 1) | ((with_reducible refine gate_dst (N := 18) rfl ?_); refine box_event ?hg (N := 18) ?hd (cs := Try.zeroCells88.setIfInBounds 0 (.int .i64 (sz : Int))) (t := 88) ?hr ?_; (case hd => rfl); (case hg => rfl); (case hr => first | (go_simp; done) | (go_simp; rfl)); intro b hg_ wb hbox_ hb_; have n0_ := Aside0.mk (below_step HB.out hb_); have n1_ := Aside0.mk hbox_; have n2_ := Aside0.mk ((by rw [hg_]; exact below_size HB.out) : w.heap.size ≤ b); have n3_ := Aside0.mk (blk_below BKg.out hb_); have n4_ := Aside0.mk (show g ≠ b by rw [hg_]; exact Nat.ne_of_lt (blk_lt BKg.out)); clear HB BKg hcg_0 hcg_1 hfg_0 hfg_1; have HB := n0_; have BKb := n1_; have GEb := n2_; have BKg := n3_; have NEg := n4_; clear n0_ n1_ n2_ n3_ n4_; clear hb_ hbox_ hg_) | ((with_reducible refine gate_dst (N := 5) rfl ?_); refine box_event ?hg (N := 5) ?hd (cs := #[.pointer none]) (t := 25) ?hr ?_; (case hd => rfl); (case hg => rfl); (case hr => first | (go_simp; done) | (go_simp; rfl)); intro p hg_ wp hbox_ hb_; have n0_ := Aside0.mk (below_step HB.out hb_); have n1_ := Aside0.mk hbox_; have n2_ := Aside0.mk ((by rw [hg_]; exact below_size HB.out) : w.heap.size ≤ p); have n3_ := Aside0.mk (blk_below BKg.out hb_); have n4_ := Aside0.mk (blk_below BKb.out hb_); have n5_ := Aside0.mk (show b ≠ p by rw [hg_]; exact Nat.ne_of_lt (blk_lt BKb.out)); have n6_ := Aside0.mk (show g ≠ p by rw [hg_]; exact Nat.ne_of_lt (blk_lt BKg.out)); clear HB BKg BKb; have HB := n0_; have BKp := n1_; have GEp := n2_; have BKg := n3_; have BKb := n4_; have NEp := n5_; have NEq := n6_; clear n0_ n1_ n2_ n3_ n4_ n5_ n6_; clear hb_ hbox_ hg_; have hcp_0 : wp.cell? ⟨p, 0, none⟩ = some (.pointer none) := (blk_cell BKp.out 0).trans rfl; have hfp_0 := blk_frozen BKp.out 0; have hcb_0 : wp.cell? ⟨b, 0, none⟩ = some (.int .i64 (sz : Int)) := (blk_cell BKb.out 0).trans (galPart_zero P sz).2.1; have hfb_0 := blk_frozen BKb.out 0; have nbp := NEp.out; have nbp2 := Ne.symm NEp.out))
      have HBS := Aside0.mk (below_set (j := 0) (v := .pointer (some ⟨b, 0, none⟩)) HB.out GEp.out)
      have BKS := Aside0.mk (blk_put (cs' := #[.pointer (some ⟨b, 0, none⟩)]) BKp.out 0 (.pointer (some ⟨b, 0, none⟩)) rfl)
      have BBS := Aside0.mk (blk_far (p := ⟨p, 0, none⟩) BKb.out NEp.out (.pointer (some ⟨b, 0, none⟩)))
      have BGS := Aside0.mk (blk_far (p := ⟨p, 0, none⟩) BKg.out NEq.out (.pointer (some ⟨b, 0, none⟩)))
      clear hcp_0 hfp_0 hcb_0 hfb_0 nbp nbp2
      go_loopg [6, 24] (sz - 1) (fun kq v6 v24 w' => ∃ (n : Nat) (cs : Array Value), v6 = .int .u64 ((gxn P sz n : Nat) : Int) ∧ v24 = .int .i64 (n : Int) ∧ Aside0 (n + kq = sz - 1) ∧ Aside0 (galPart P sz n cs) ∧ Aside0 (w'.heap[b]? = some (.cells cs 88 (0, 0))) ∧ Aside0 (w'.heap[p]? = some (.cells #[.pointer (some ⟨b, 0, none⟩)] 25 (0, 0))) ∧ Aside0 (w'.heap[g]? = some (.cells #[.int .i64 (M : Int), .int .u64 (P : Int)] 24 (0, 0))) ∧ Aside0 (Below w.heap.size w w'))
      case atStart => exact ⟨0, _, rfl, rfl, ⟨by omega⟩, ⟨galPart_zero P sz⟩, BBS, BKS, BGS, HBS⟩
      case round =>
        clear HB BKg BKb BKp HBS BKS BBS BGS
        obtain ⟨n, cs, rfl, rfl, HN, HP, BKb, BKp, BKg, HB⟩ := hrel
        have hcp_0 : wr.cell? ⟨p, 0, none⟩ = some (.pointer (some ⟨b, 0, none⟩)) := (blk_cell BKp.out 0).trans rfl
        have hfp_0 := blk_frozen BKp.out 0
        have hcb_0 : wr.cell? ⟨b, 0, none⟩ = some (.int .i64 (sz : Int)) := (blk_cell BKb.out 0).trans HP.out.2.1
        have hfb_0 := blk_frozen BKb.out 0
        have nbp := NEp.out
        have nbp2 := Ne.symm NEp.out
        have ngb := NEg.out
        have ngb2 := Ne.symm NEg.out
        have hcg_1 : wr.cell? ⟨g, 1, none⟩ = some (.int .u64 (P : Int)) := (blk_cell BKg.out 1).trans rfl
        have hfg_1 := blk_frozen BKg.out 1
        cases gk with
        | zero =>
          have hj : decide ((n : Int) < (sz : Int) - 1) = false := decide_eq_false (by have := HN.out; omega)
          have en : n = sz - 1 := by have := HN.out; omega
          subst en
          obtain ⟨v513, hv513⟩ : ∃ v, cs[513]? = some v := ⟨_, Array.getElem?_eq_getElem (show 513 < cs.size by rw [HP.out.1]; omega)⟩
          have hcb_513 : wr.cell? ⟨b, 513, none⟩ = some v513 := (blk_cell BKb.out 513).trans hv513
          have hfb_513 := blk_frozen BKb.out 513
          go_wp2_with (first | ((with_reducible refine gate_dst (N := 8) rfl ?_); refine box_event ?hg (N := 8) ?hd (cs := #[.int .i64 0]) (t := 3) ?hr ?_; (case hd => rfl); (case hg => rfl); (case hr => first | (go_simp; done) | (go_simp; rfl)); intro q hg_ wq hbox_ hb_; have n0_ := Aside0.mk (below_step HB.out hb_); have n1_ := Aside0.mk hbox_; have n2_ := Aside0.mk ((by rw [hg_]; exact below_size HB.out) : w.heap.size ≤ q); have n4_ := Aside0.mk (blk_below BKb.out hb_); have n3_ := Aside0.mk (blk_below BKp.out hb_); have n5_ := Aside0.mk (show b ≠ q by rw [hg_]; exact Nat.ne_of_lt (blk_lt BKb.out)); have n6_ := Aside0.mk (show p ≠ q by rw [hg_]; exact Nat.ne_of_lt (blk_lt BKp.out)); clear HB BKb BKp hcp_0 hfp_0 hcb_0 hfb_0 hcb_513 hfb_513; have HB := n0_; have BKq := n1_; have GEq := n2_; have BKb := n4_; have BKp := n3_; have NEbq := n5_; have NEpq := n6_; clear n0_ n1_ n2_ n3_ n4_ n5_ n6_; clear hb_ hbox_ hg_; have hcp_0 : wq.cell? ⟨p, 0, none⟩ = some (.pointer (some ⟨b, 0, none⟩)) := (blk_cell BKp.out 0).trans rfl; have hfp_0 := blk_frozen BKp.out 0; have hcb_0 : wq.cell? ⟨b, 0, none⟩ = some (.int .i64 (sz : Int)) := (blk_cell BKb.out 0).trans HP.out.2.1; have hfb_0 := blk_frozen BKb.out 0; have hcb_513 : wq.cell? ⟨b, 513, none⟩ = some v513 := (blk_cell BKb.out 513).trans hv513; have hfb_513 := blk_frozen BKb.out 513; have hcq_0 : wq.cell? ⟨q, 0, none⟩ = some (.int .i64 0) := (blk_cell BKq.out 0).trans rfl; have hfq_0 := blk_frozen BKq.out 0; have nbq := NEbq.out; have npq := NEpq.out; have nbq2 := Ne.symm NEbq.out; have npq2 := Ne.symm NEpq.out))
          have HBS := Aside0.mk (below_set (j := 513) (v := .func (.func 91) #[] #[.pointer (some ⟨p, 0, none⟩), .pointer (some ⟨q, 0, none⟩)]) (below_set (j := 0) (v := .int .i64 ((sz : Int) - 1)) HB.out GEq.out) GEb.out)
          have BQ1 := blk_put (cs' := #[.int .i64 ((sz : Int) - 1)]) BKq.out 0 (.int .i64 ((sz : Int) - 1)) rfl
          have BB1 := blk_far (p := ⟨q, 0, none⟩) BKb.out NEbq.out (.int .i64 ((sz : Int) - 1))
          have BP1 := blk_far (p := ⟨q, 0, none⟩) BKp.out NEpq.out (.int .i64 ((sz : Int) - 1))
          have BQ2 := blk_far (p := ⟨b, 513, none⟩) BQ1 (Ne.symm NEbq.out) (.func (.func 91) #[] #[.pointer (some ⟨p, 0, none⟩), .pointer (some ⟨q, 0, none⟩)])
          have BB2 := blk_set BB1 513 (.func (.func 91) #[] #[.pointer (some ⟨p, 0, none⟩), .pointer (some ⟨q, 0, none⟩)])
          have BP2 := blk_far (p := ⟨b, 513, none⟩) BP1 (Ne.symm NEp.out) (.func (.func 91) #[] #[.pointer (some ⟨p, 0, none⟩), .pointer (some ⟨q, 0, none⟩)])
          go_ret2
          refine ⟨some ⟨b, 0, none⟩, rfl, .inr ⟨rfl, b, p, q, rfl, ⟨⟨⟨_, BB2, ?_, fun k hk => ?_, fun k hk => ?_, ?_⟩, BP2, BQ2⟩, by have := HSZ1.out; show 2 ≤ sz; omega, HSZ2.out, fun k => ?_, fun k => ?_⟩⟩, HBS.out⟩
          · rw [Array.getElem?_setIfInBounds_ne (by omega)]; exact HP.out.2.1
          · rw [Array.getElem?_setIfInBounds_ne (by omega)]; exact HP.out.2.2.1 k hk
          · by_cases c : k = 256
            · omega
            · rw [Array.getElem?_setIfInBounds_ne (by omega)]; exact HP.out.2.2.2 k hk
          · rw [Array.getElem?_setIfInBounds_self_of_lt (by rw [HP.out.1]; omega)]
          · exact gxe_byte P sz (sz - 1) HM5.out (by have := HSZ1.out; omega) HSZ2.out k
          · exact glg_byte P sz (sz - 1) k (by have := HSZ2.out; omega)
        | succ k1 =>
          have hj : decide ((n : Int) < (sz : Int) - 1) = true := decide_eq_true (by have := HN.out; omega)
          have hn1 : n < sz - 1 := by have := HN.out; omega
          obtain ⟨x, hx⟩ : ∃ x, x = gxn P sz n := ⟨_, rfl⟩
          have hxs : x < sz := by rw [hx]; exact HM5.out n (by omega)
          have hx2 : x < 256 := by have := HSZ2.out; omega
          have hxi : (x : Int) < 256 := by omega
          have hni : (n : Int) < 255 := by have := HSZ2.out; omega
          have t1 : ((n : Int) < 256) = True := eq_true (by omega)
          have hxm : (x : Int) % 256 = (x : Int) := by omega
          rw [← hx]
          obtain ⟨v1, hv1⟩ : ∃ v, cs[1 + n]? = some v := ⟨_, HP.out.2.2.1 n (by omega)⟩
          obtain ⟨v2, hv2⟩ : ∃ v, cs[257 + x]? = some v := ⟨_, HP.out.2.2.2 x (by omega)⟩
          have hcb_1 : wr.cell? ⟨b, 1 + n, none⟩ = some v1 := (blk_cell BKb.out _).trans hv1
          have hfb_1 := blk_frozen BKb.out (1 + n)
          have hcb_2 : wr.cell? ⟨b, 257 + x, none⟩ = some v2 := (blk_cell BKb.out _).trans hv2
          have hfb_2 := blk_frozen BKb.out (257 + x)
          have ne1 : ¬ (1 + n = 257 + x) := by omega
          have ne2 : ¬ (257 + x = 1 + n) := by omega
          have HX := Aside0.mk hx
          have HX2 := Aside0.mk hx2
          have HN1 := Aside0.mk hn1
          clear hx hx2 hn1 hxs
          have nx0 : (0 : Int) ≤ (x : Int) := by omega
          have finish : ∀ (y : Nat), y = gxn P sz (n + 1) → ∀ K : Prop, (∀ (cs' : Array Value), galPart P sz (n + 1) cs' → ((wr.setCell ⟨b, 1 + n, none⟩ (.int .u8 (x : Int))).setCell ⟨b, 257 + x, none⟩ (.int .i64 (n : Int))).heap[b]? = some (.cells cs' 88 (0, 0)) → K) → K := by
            intro y _ K hK
            exact hK _ (by have hs := galPart_step HP.out (by have := HN1.out; have := HSZ2.out; omega) (by rw [← HX.out]; exact HX2.out); rw [← HX.out] at hs; exact hs) (blk_set (blk_set BKb.out (1 + n) (.int .u8 (x : Int))) (257 + x) (.int .i64 (n : Int)))
          have HBS := Aside0.mk (below_set (j := 257 + x) (v := .int .i64 (n : Int)) (below_set (j := 1 + n) (v := .int .u8 (x : Int)) HB.out GEb.out) GEb.out)
          have BPS := Aside0.mk (blk_far (p := ⟨b, 257 + x, none⟩) (blk_far (p := ⟨b, 1 + n, none⟩) BKp.out (Ne.symm NEp.out) (.int .u8 (x : Int))) (Ne.symm NEp.out) (.int .i64 (n : Int)))
          have BGS := Aside0.mk (blk_far (p := ⟨b, 257 + x, none⟩) (blk_far (p := ⟨b, 1 + n, none⟩) BKg.out NEg.out (.int .u8 (x : Int))) NEg.out (.int .i64 (n : Int)))
          have HF := Aside0.mk finish
          clear finish
          by_cases cs1 : sz ≤ 2 * x
          · have b1 : decide ((sz : Int) ≤ (x : Int) * 2) = true := decide_eq_true (by omega)
            have HC1 := Aside0.mk cs1
            clear cs1
            go_wp2
            go_roundg k1
            case measure => omega
            case rel =>
              have ey : 2 * x ^^^ P = gxn P sz (n + 1) := by
                rw [gxn, ← HX.out, if_pos HC1.out]
              refine HF.out _ ey _ fun cs' hp hb => ⟨n + 1, cs', ?_, congrArg (Value.int .i64) (by first | omega | (unfold wrap64; omega)), ⟨by have := HN.out; omega⟩, ⟨hp⟩, ⟨hb⟩, BPS, BGS, HBS⟩
              rw [← ey, show ((x : Int) * 2) = ((2 * x : Nat) : Int) by omega, u64_xor_nat _ _ (by have := HX2.out; omega) (by have := HP5.out; omega)]
          · have b1 : decide ((sz : Int) ≤ (x : Int) * 2) = false := decide_eq_false (by omega)
            have HC1 := Aside0.mk cs1
            clear cs1
            go_wp2
            go_roundg k1
            case measure => omega
            case rel =>
              have ey : 2 * x = gxn P sz (n + 1) := by
                rw [gxn, ← HX.out, if_neg HC1.out]
              refine HF.out _ ey _ fun cs' hp hb => ⟨n + 1, cs', ?_, congrArg (Value.int .i64) (by first | omega | (unfold wrap64; omega)), ⟨by have := HN.out; omega⟩, ⟨hp⟩, ⟨hb⟩, BPS, BGS, HBS⟩
              rw [← ey, show ((x : Int) * 2) = ((2 * x : Nat) : Int) by omega]
    · rw [if_neg c1] at h
      exact absurd h (by simp)
  · rw [if_neg c0] at h
    simp only [Option.some.injEq, Prod.mk.injEq] at h
    obtain ⟨rfl, rfl⟩ := h
    have b0 : (e != 0) = true := bne_iff_ne.mpr c0
    clear c0
    go_enter Try.func58, Try.ntmps58
    go_wp2_with (first | ((with_reducible refine gate_dst (N := 1) rfl ?_); refine box_event ?hg (N := 1) ?hd (cs := #[.int .i64 a0_0, .int .u64 a0_1]) (t := 24) ?hr ?_; (case hd => rfl); (case hg => rfl); (case hr => first | (go_simp; done) | (go_simp; rfl)); intro g hg_ wg hbox_ hb_; have n0_ := Aside0.mk (below_step HB.out hb_); have n1_ := Aside0.mk hbox_; clear HB; have HB := n0_; have BKg := n1_; clear n0_ n1_; clear hb_ hbox_ hg_; have hcg_0 : wg.cell? ⟨g, 0, none⟩ = some (.int .i64 a0_0) := (blk_cell BKg.out 0).trans rfl; have hfg_0 := blk_frozen BKg.out 0; have hcg_1 : wg.cell? ⟨g, 1, none⟩ = some (.int .u64 a0_1) := (blk_cell BKg.out 1).trans rfl; have hfg_1 := blk_frozen BKg.out 1) | (go_at_call 60; (with_reducible refine (galois_Check.calls k _ _ e _ HE.out).mono ?_); rintro e w5 ⟨rfl, hb⟩; have n0_ := Aside0.mk (below_step HB.out hb); clear HB; have HB := n0_; clear n0_; clear hb))
    go_ret2
    exact ⟨none, rfl, .inl ⟨rfl, .inl ⟨rfl, rfl⟩⟩, HB.out⟩

/-! ### outpostlaw32_eight: function 90 -/
def outpostlaw32_eight.f  : Option (Int × Int) := some (3, 11)
set_option maxHeartbeats 8000000 in
set_option maxRecDepth 100000 in
theorem outpostlaw32_eight.calls  (r1 : Int) (r2 : Int) (w : World) (h : outpostlaw32_eight.f  = some (r1, r2)) :
    Calls Try.prog 90 #[] w fun e w' => e = .returned (.agg #[.int .i64 r1, .int .u64 r2]) ∧ Below w.heap.size w w' := by
  have hu24 := Try.underlying24
  have HB := Aside0.mk (Below.refl w.heap.size w)
  have H : (some (3, 11)) = some (r1, r2) := h
  clear h
  simp only [Option.some.injEq, Prod.mk.injEq] at H
  obtain ⟨rfl, rfl⟩ := H
  go_enter Try.func90, Try.ntmps90
  go_wp2_with (first | ((with_reducible refine gate_dst (N := 0) rfl ?_); refine box_event ?hg (N := 0) ?hd (cs := #[.int .i64 0, .int .u64 0]) (t := 24) ?hr ?_; (case hd => rfl); (case hg => rfl); (case hr => first | (go_simp; done) | (go_simp; rfl)); intro gb164 hg w1 hbox hb; have n0_ := Aside0.mk (below_step (by repeat (first | (with_reducible first | exact HB.out | apply below_alloc | apply pw_below_drewN | apply below_drew1) | exact HB.out)) hb); have n1_ := Aside0.mk (hbox); have n2_ := Aside0.mk ((by rw [hg]; exact (below_size (by repeat (first | (with_reducible first | exact HB.out | apply below_alloc | apply pw_below_drewN | apply below_drew1) | exact HB.out))) : w.heap.size ≤ gb164)); have n3_ := Aside0.mk ((by rw [hg]; exact (below_size (by repeat (first | (with_reducible first | exact HB.out | apply below_alloc | apply pw_below_drewN | apply below_drew1) | exact HB.out))) : w.heap.size ≤ gb164)); clear HB; have HB := n0_; have BK164 := n1_; have GW164 := n2_; have GE164 := n3_; clear n0_ n1_ n2_ n3_; clear hb hbox hg; have hcz2_0 : w1.cell? ⟨gb164, 0, none⟩ = some (.int .i64 0) := (blk_cell BK164.out 0).trans rfl; have hcz2_1 : w1.cell? ⟨gb164, 1, none⟩ = some (.int .u64 0) := (blk_cell BK164.out 1).trans rfl; have hfz2_0 := blk_frozen BK164.out 0; have hfz2_1 := blk_frozen BK164.out 1))
  refine bodyPost_ret (results_cell_row rfl _ _ gb164 24 #[.int .i64 3, .int .u64 11] (0, 0) _ rfl (by (with_reducible repeat (first | refine blk_drewN ?_ _ | refine blk_drew ?_ | refine blk_alloc ?_ _)); refine blk_put (cs := #[.int .i64 3, .int .u64 0]) ?_ 1 _ rfl; (with_reducible repeat (first | refine blk_drewN ?_ _ | refine blk_drew ?_ | refine blk_alloc ?_ _)); refine blk_put (cs := #[.int .i64 0, .int .u64 0]) ?_ 0 _ rfl; (with_reducible repeat (first | refine blk_drewN ?_ _ | refine blk_drew ?_ | refine blk_alloc ?_ _)); exact BK164.out) Try.underlying24 rfl (by kernel_rfl)) rfl ?_
  exact ⟨by first | rfl | (simp [errW_none, errW_some] <;> rfl) | (simp [*, errW_none, errW_some] <;> rfl), by repeat (first | (with_reducible first | exact HB.out | apply below_alloc | apply pw_below_drewN | apply below_drew1 | refine below_set ?_ GE164.out) | exact HB.out)⟩

end Go.Proofs.Ytlmhppgplbefcaa.P
