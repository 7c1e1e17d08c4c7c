-- written by mk.sh, a program of this session, over the kit's print
import Derived.Test.YtlmhppgplbefcaaGnPx0
import Derived.Test.YtlmhppgplbefcaaGnPx1
import Derived.Test.YtlmhppgplbefcaaGnPx4
import Derived.Test.YtlmhppgplbefcaaGnPx5
import Derived.Test.YtlmhppgplbefcaaGnPx6
namespace Go.Proofs.Ytlmhppgplbefcaa.P
open Go.RowKit Go.Proofs.YtlmhppgplbefcaaW.PrintWords Go.Proofs.YtlmhppgplbefcaaW.PrintLast Go.Proofs.YtlmhppgplbefcaaW.PrintMore
attribute [local go_sem] max2_int min2_int max_two min_two max_three min_three max_four min_four   -- for this text's walks alone
set_option linter.unusedVariables false
set_option linter.unusedSimpArgs false

/-! ### galois_Tables_power: function 63 -/
def galois_Tables_power.f (a0 : GTab) (a1 : Int) (a2 : Int) : Option (Int) := if 0 < a0.size then (if (wrap64 ((a0.size : Int) - 1)) = 0 then (none) else (if 0 ≤ (Int.tmod (wrap64 ((Int.tmod (wrap64 ((Int.tmod a1 (wrap64 ((a0.size : Int) - 1))) + (wrap64 ((a0.size : Int) - 1)))) (wrap64 ((a0.size : Int) - 1))) * a2)) (wrap64 ((a0.size : Int) - 1))) then (if (Int.tmod (wrap64 ((Int.tmod (wrap64 ((Int.tmod a1 (wrap64 ((a0.size : Int) - 1))) + (wrap64 ((a0.size : Int) - 1)))) (wrap64 ((a0.size : Int) - 1))) * a2)) (wrap64 ((a0.size : Int) - 1))) < 256 then (some (GTab.ex a0 (Int.tmod (wrap64 ((Int.tmod (wrap64 ((Int.tmod a1 (wrap64 ((a0.size : Int) - 1))) + (wrap64 ((a0.size : Int) - 1)))) (wrap64 ((a0.size : Int) - 1))) * a2)) (wrap64 ((a0.size : Int) - 1))))) else (none)) else (none))) else (none)
set_option maxHeartbeats 8000000 in
set_option maxRecDepth 100000 in
theorem galois_Tables_power.calls (A0 : Option Addr) (a0 : GTab) (a1 : Int) (a2 : Int) (r : Int) (w : World) (hr0 : gal_OK w A0 a0) (h : galois_Tables_power.f a0 a1 a2 = some r) :
    Calls Try.prog 63 #[.pointer A0, .int .i64 a1, .int .i64 a2] w fun e w' => e = .returned (.int .u8 r) ∧ Drawn0 w w' := by
  have HR0 := Aside0.mk hr0
  clear hr0
  have H : (if 0 < a0.size then (if (wrap64 ((a0.size : Int) - 1)) = 0 then (none) else (if 0 ≤ (Int.tmod (wrap64 ((Int.tmod (wrap64 ((Int.tmod a1 (wrap64 ((a0.size : Int) - 1))) + (wrap64 ((a0.size : Int) - 1)))) (wrap64 ((a0.size : Int) - 1))) * a2)) (wrap64 ((a0.size : Int) - 1))) then (if (Int.tmod (wrap64 ((Int.tmod (wrap64 ((Int.tmod a1 (wrap64 ((a0.size : Int) - 1))) + (wrap64 ((a0.size : Int) - 1)))) (wrap64 ((a0.size : Int) - 1))) * a2)) (wrap64 ((a0.size : Int) - 1))) < 256 then (some (GTab.ex a0 (Int.tmod (wrap64 ((Int.tmod (wrap64 ((Int.tmod a1 (wrap64 ((a0.size : Int) - 1))) + (wrap64 ((a0.size : Int) - 1)))) (wrap64 ((a0.size : Int) - 1))) * a2)) (wrap64 ((a0.size : Int) - 1))))) else (none)) else (none))) else (none)) = some r := h
  clear h
  by_cases c4 : 0 < a0.size
  · rw [if_pos c4] at H
    obtain ⟨b_, p_, q_, rfl, hT_⟩ := gal_pos HR0.out c4
    have HT0 := Aside0.mk hT_
    clear hT_ c4
    by_cases c6 : (wrap64 ((a0.size : Int) - 1)) = 0
    · rw [if_pos c6] at H
      exact absurd H (by simp)
    · rw [if_neg c6] at H
      have c6b0 : ((wrap64 ((a0.size : Int) - 1)) == 0) = false := beq_eq_false_iff_ne.mpr c6
      have c6b1 : ((wrap64 ((a0.size : Int) - 1)) != 0) = true := bne_iff_ne.mpr c6
      obtain ⟨ji7, hji7⟩ : ∃ j_ : Int, (Int.tmod (wrap64 ((Int.tmod (wrap64 ((Int.tmod a1 (wrap64 ((a0.size : Int) - 1))) + (wrap64 ((a0.size : Int) - 1)))) (wrap64 ((a0.size : Int) - 1))) * a2)) (wrap64 ((a0.size : Int) - 1))) = j_ := ⟨_, rfl⟩
      replace H : (if 0 ≤ (ji7) then (if (ji7) < 256 then (some (GTab.ex a0 (ji7))) else (none)) else (none)) = some r := by first | (rw [hji7] at H; exact H) | (simp only [hji7] at H ⊢; exact H)
      by_cases c8 : 0 ≤ (ji7)
      · rw [if_pos c8] at H
        have c8b0 : decide (0 ≤ (ji7)) = true := decide_eq_true c8
        clear c8
        by_cases c9 : (ji7) < 256
        · rw [if_pos c9] at H
          have c9b0 : decide ((ji7) < 256) = true := decide_eq_true c9
          clear c9
          obtain rfl := Option.some.inj H
          have ho5 := gal_At_size HT0.out
          have hx5 := ho5
          have p10 : 0 ≤ (ji7 : Int) := of_decide_eq_true (by first | (with_reducible assumption) | assumption)
          have q10 : (ji7 : Int) < 256 := of_decide_eq_true (by first | (with_reducible assumption) | assumption)
          have ho10 := gal_At_exp HT0.out ji7 p10 q10
          have hx10 := ho10
          replace p10 := eq_true p10
          replace q10 := eq_true q10
          go_enter Try.func63, Try.ntmps63
          go_wp2
          go_ret
          exact ⟨by first | rfl | (simp; done) | (simp only [← hji7] <;> (first | rfl | simp)) | (simp [*]; done) | (simp [wrap64]; done), by repeat (first | exact Drawn0.refl _ | apply Drawn0.step)⟩
        · rw [if_neg c9] at H
          exact absurd H (by simp)
      · rw [if_neg c8] at H
        exact absurd H (by simp)
  · rw [if_neg c4] at H
    exact absurd H (by simp)

/-! ### galois_Tables_Exp: function 18 -/
def galois_Tables_Exp.f (a0 : GTab) (a1 : Int) : Option (Int) := (galois_Tables_none.f a0).bind fun t249 => (if t249 = true then (some 0) else ((galois_Tables_power.f a0 a1 1).bind fun t250 => (some t250)))
set_option maxHeartbeats 8000000 in
set_option maxRecDepth 100000 in
theorem galois_Tables_Exp.calls (A0 : Option Addr) (a0 : GTab) (a1 : Int) (r : Int) (w : World) (hr0 : gal_OK w A0 a0) (h : galois_Tables_Exp.f a0 a1 = some r) :
    Calls Try.prog 18 #[.pointer A0, .int .i64 a1] w fun e w' => e = .returned (.int .u8 r) ∧ Drawn0 w w' := by
  have HR0 := Aside0.mk hr0
  clear hr0
  have H : ((galois_Tables_none.f a0).bind fun t249 => (if t249 = true then (some 0) else ((galois_Tables_power.f a0 a1 1).bind fun t250 => (some t250)))) = some r := h
  clear h
  replace H := Option.bind_eq_some_iff.mp H
  obtain ⟨t249, A30, H⟩ := H
  replace H : (if t249 = true then (some 0) else ((galois_Tables_power.f a0 a1 1).bind fun t250 => (some t250))) = some r := H
  have A3 := Aside0.mk A30
  clear A30
  by_cases c4 : t249 = true
  · subst c4
    have H1 : (some 0) = some r := by rw [if_pos rfl] at H; exact H
    clear H
    have H := H1
    clear H1
    obtain rfl := Option.some.inj H
    go_enter Try.func18, Try.ntmps18
    go_wp2_with (first | ((with_reducible refine gate_callee (f := 62) rfl ?_); refine goesL_ (some 6) rfl rfl Try.func62 (by kernel_rfl) rfl #[.pointer A0] rfl (by (try simp only [List.map_toArray, List.map_cons, List.map_nil]); first | done | rfl | (simp only [List.length_drop, List.length_take]; rfl) | (simp [Act.eval, IntKind.wrap_u8, IntKind.wrap_u32]; done)) ?_; (with_reducible refine (galois_Tables_none.calls _ a0 true _ ?side1 A3.out).mono ?_); (case side1 => exact HR0.out); rintro e w' ⟨rfl, ⟨nd, rfl⟩⟩; refine ⟨_, rfl, ?_⟩))
    go_ret
    exact ⟨by first | rfl | (simp; done) | (simp [*]; done) | (simp [wrap64]; done), by repeat (first | exact Drawn0.refl _ | apply Drawn0.step)⟩
  · replace c4 := Bool.eq_false_iff.mpr c4
    subst c4
    have H1 : ((galois_Tables_power.f a0 a1 1).bind fun t250 => (some t250)) = some r := by rw [if_neg (show ¬ (false = true) by decide)] at H; exact H
    clear H
    have H := H1
    clear H1
    replace H := Option.bind_eq_some_iff.mp H
    obtain ⟨t250, A50, H⟩ := H
    replace H : (some t250) = some r := H
    have A5 := Aside0.mk A50
    clear A50
    obtain rfl := Option.some.inj H
    go_enter Try.func18, Try.ntmps18
    go_wp2_with (first | ((with_reducible refine gate_callee (f := 62) rfl ?_); refine goesL_ (some 6) rfl rfl Try.func62 (by kernel_rfl) rfl #[.pointer A0] rfl (by (try simp only [List.map_toArray, List.map_cons, List.map_nil]); first | done | rfl | (simp only [List.length_drop, List.length_take]; rfl) | (simp [Act.eval, IntKind.wrap_u8, IntKind.wrap_u32]; done)) ?_; (with_reducible refine (galois_Tables_none.calls _ a0 false _ ?side1 A3.out).mono ?_); (case side1 => exact HR0.out); rintro e w' ⟨rfl, ⟨nd, rfl⟩⟩; refine ⟨_, rfl, ?_⟩) | ((with_reducible refine gate_callee (f := 63) rfl ?_); refine goesL_ (some 9) rfl rfl Try.func63 (by kernel_rfl) rfl #[.pointer A0, .int .i64 a1, .int .i64 1] rfl (by (try simp only [List.map_toArray, List.map_cons, List.map_nil]); first | done | rfl | (simp only [List.length_drop, List.length_take]; rfl) | (simp [Act.eval, IntKind.wrap_u8, IntKind.wrap_u32]; done)) ?_; (with_reducible refine (galois_Tables_power.calls _ a0 a1 1 t250 _ ?side1 A5.out).mono ?_); (case side1 => exact HR0.out); rintro e w' ⟨rfl, ⟨nd, rfl⟩⟩; refine ⟨_, rfl, ?_⟩))
    go_ret
    exact ⟨by first | rfl | (simp; done) | (simp [*]; done) | (simp [wrap64]; done), by repeat (first | exact Drawn0.refl _ | apply Drawn0.step)⟩

end Go.Proofs.Ytlmhppgplbefcaa.P
