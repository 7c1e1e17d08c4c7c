-- written by mk.sh, a program of this session, over the kit's print
import Derived.Test.YtlmhppgplbefcaaGnPx0
import Derived.Test.YtlmhppgplbefcaaGnPx1
import Derived.Test.YtlmhppgplbefcaaGnPx7
import Derived.Test.YtlmhppgplbefcaaGnPx11
namespace Go.Proofs.Ytlmhppgplbefcaa.P
open Go.RowKit Go.Proofs.YtlmhppgplbefcaaW.PrintWords Go.Proofs.YtlmhppgplbefcaaW.PrintLast Go.Proofs.YtlmhppgplbefcaaW.PrintMore
attribute [local go_sem] max2_int min2_int max_two min_two max_three min_three max_four min_four   -- for this text's walks alone
set_option linter.unusedVariables false
set_option linter.unusedSimpArgs false

/-! ### galois_Tables_Size: function 35 -/
def galois_Tables_Size.f (a0 : GTab) : Option (Int) := (galois_Tables_none.f a0).bind fun t381 => (if t381 = true then (some 0) else (if 0 < a0.size then (some (a0.size : Int)) else (none)))
set_option maxHeartbeats 8000000 in
set_option maxRecDepth 100000 in
theorem galois_Tables_Size.calls (A0 : Option Addr) (a0 : GTab) (r : Int) (w : World) (hr0 : gal_OK w A0 a0) (h : galois_Tables_Size.f a0 = some r) :
    Calls Try.prog 35 #[.pointer A0] w fun e w' => e = .returned (.int .i64 r) ∧ Drawn0 w w' := by
  have HR0 := Aside0.mk hr0
  clear hr0
  have H : ((galois_Tables_none.f a0).bind fun t381 => (if t381 = true then (some 0) else (if 0 < a0.size then (some (a0.size : Int)) else (none)))) = some r := h
  clear h
  replace H := Option.bind_eq_some_iff.mp H
  obtain ⟨t381, A20, H⟩ := H
  replace H : (if t381 = true then (some 0) else (if 0 < a0.size then (some (a0.size : Int)) else (none))) = some r := H
  have A2 := Aside0.mk A20
  clear A20
  by_cases c3 : t381 = true
  · subst c3
    have H1 : (some 0) = some r := by rw [if_pos rfl] at H; exact H
    clear H
    have H := H1
    clear H1
    obtain rfl := Option.some.inj H
    go_enter Try.func35, Try.ntmps35
    go_wp2_with (first | ((with_reducible refine gate_callee (f := 62) rfl ?_); refine goesL_ (some 4) rfl rfl Try.func62 (by kernel_rfl) rfl #[.pointer A0] rfl (by (try simp only [List.map_toArray, List.map_cons, List.map_nil]); first | done | rfl | (simp only [List.length_drop, List.length_take]; rfl) | (simp [Act.eval, IntKind.wrap_u8, IntKind.wrap_u32]; done)) ?_; (with_reducible refine (galois_Tables_none.calls _ a0 true _ ?side1 A2.out).mono ?_); (case side1 => exact HR0.out); rintro e w' ⟨rfl, ⟨nd, rfl⟩⟩; refine ⟨_, rfl, ?_⟩))
    go_ret
    exact ⟨by first | rfl | (simp; done) | (simp [*]; done) | (simp [wrap64]; done), by repeat (first | exact Drawn0.refl _ | apply Drawn0.step)⟩
  · replace c3 := Bool.eq_false_iff.mpr c3
    subst c3
    have H1 : (if 0 < a0.size then (some (a0.size : Int)) else (none)) = some r := by rw [if_neg (show ¬ (false = true) by decide)] at H; exact H
    clear H
    have H := H1
    clear H1
    by_cases c4 : 0 < a0.size
    · rw [if_pos c4] at H
      obtain ⟨b_, p_, q_, rfl, hT_⟩ := gal_pos HR0.out c4
      have HT0 := Aside0.mk hT_
      clear hT_ c4
      obtain rfl := Option.some.inj H
      go_enter Try.func35, Try.ntmps35
      go_wp2_with (first | ((with_reducible refine gate_callee (f := 62) rfl ?_); refine goesL_ (some 4) rfl rfl Try.func62 (by kernel_rfl) rfl #[.pointer (some ⟨b_, 0, none⟩)] rfl (by (try simp only [List.map_toArray, List.map_cons, List.map_nil]); first | done | rfl | (simp only [List.length_drop, List.length_take]; rfl) | (simp [Act.eval, IntKind.wrap_u8, IntKind.wrap_u32]; done)) ?_; (with_reducible refine (galois_Tables_none.calls _ a0 false _ ?side1 A2.out).mono ?_); (case side1 => exact HR0.out); rintro e w' ⟨rfl, ⟨nd, rfl⟩⟩; refine ⟨_, rfl, ?_⟩; have ho5 := gal_At_size HT0.out; have hx5 := ho5))
      go_ret
      exact ⟨by first | rfl | (simp; done) | (simp [*]; done) | (simp [wrap64]; done), by repeat (first | exact Drawn0.refl _ | apply Drawn0.step)⟩
    · rw [if_neg c4] at H
      exact absurd H (by simp)


end Go.Proofs.Ytlmhppgplbefcaa.P
