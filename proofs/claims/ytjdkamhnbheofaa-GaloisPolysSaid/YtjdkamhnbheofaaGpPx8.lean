-- written by mk.sh, a program of this session, over the kit's print
import Derived.Test.YtjdkamhnbheofaaGpPx0
import Derived.Test.YtjdkamhnbheofaaGpPx2
import Derived.Test.YtjdkamhnbheofaaGpPx7
namespace Go.Proofs.Ytjdkamhnbheofaa.P
open Go.RowKit Go.Proofs.YtjdkamhnbheofaaW.PrintWords Go.Proofs.YtjdkamhnbheofaaW.PrintLast Go.Proofs.YtjdkamhnbheofaaW.PrintMore
attribute [local go_sem] max2_int min2_int max_two min_two max_three min_three max_four min_four   -- for this text's walks alone
set_option linter.unusedVariables false
set_option linter.unusedSimpArgs false

def gT_inv.f (a0 : GTab) (a1 : Int) : Option (Int) := if 0 < a0.size then (if 0 ≤ a1 then (if a1 < 256 then (if (wrap64 ((a0.size : Int) - 1)) = 0 then (none) else (if 0 ≤ (Int.tmod (wrap64 ((wrap64 ((a0.size : Int) - 1)) - (GTab.lg a0 a1))) (wrap64 ((a0.size : Int) - 1))) then (if (Int.tmod (wrap64 ((wrap64 ((a0.size : Int) - 1)) - (GTab.lg a0 a1))) (wrap64 ((a0.size : Int) - 1))) < 256 then (some (GTab.ex a0 (Int.tmod (wrap64 ((wrap64 ((a0.size : Int) - 1)) - (GTab.lg a0 a1))) (wrap64 ((a0.size : Int) - 1))))) else (none)) else (none))) else (none)) else (none)) else (none)
set_option maxHeartbeats 8000000 in
set_option maxRecDepth 100000 in
theorem gT_inv.calls (A0 : Option Addr) (a0 : GTab) (a1 : Int) (r : Int) (w : World) (hr0 : gal_OK w A0 a0) (h : gT_inv.f a0 a1 = some r) :
  Calls Try.prog 42 #[.pointer A0, .int .u8 a1] w fun e w' => e = .returned (.int .u8 r) ∧ Drawn0 w w' := by
 have HR0 := Aside0.mk hr0
 clear hr0
 have H : (if 0 < a0.size then (if 0 ≤ a1 then (if a1 < 256 then (if (wrap64 ((a0.size : Int) - 1)) = 0 then (none) else (if 0 ≤ (Int.tmod (wrap64 ((wrap64 ((a0.size : Int) - 1)) - (GTab.lg a0 a1))) (wrap64 ((a0.size : Int) - 1))) then (if (Int.tmod (wrap64 ((wrap64 ((a0.size : Int) - 1)) - (GTab.lg a0 a1))) (wrap64 ((a0.size : Int) - 1))) < 256 then (some (GTab.ex a0 (Int.tmod (wrap64 ((wrap64 ((a0.size : Int) - 1)) - (GTab.lg a0 a1))) (wrap64 ((a0.size : Int) - 1))))) else (none)) else (none))) else (none)) else (none)) else (none)) = some r := h
 clear h
 by_cases c3 : 0 < a0.size
 rotate_left
 ·rw [if_neg c3] at H
  exact absurd H (by simp)

 rw [if_pos c3] at H
 obtain ⟨b_, p_, q_, rfl, hT_⟩ := gal_pos HR0.out c3
 have HT0 := Aside0.mk hT_
 clear hT_ c3
 by_cases c5 : 0 ≤ a1
 rotate_left
 ·rw [if_neg c5] at H
  exact absurd H (by simp)
 rw [if_pos c5] at H
 have c5b0 : decide (0 ≤ a1) = true := decide_eq_true c5
 clear c5
 by_cases c6 : a1 < 256
 rotate_left
 ·rw [if_neg c6] at H
  exact absurd H (by simp)
 rw [if_pos c6] at H
 have c6b0 : decide (a1 < 256) = true := decide_eq_true c6
 clear c6
 by_cases c9 : (wrap64 ((a0.size : Int) - 1)) = 0
 ·rw [if_pos c9] at H
  exact absurd H (by simp)
 ·rw [if_neg c9] at H
  have c9b0 : ((wrap64 ((a0.size : Int) - 1)) == 0) = false := beq_eq_false_iff_ne.mpr c9
  have c9b1 : ((wrap64 ((a0.size : Int) - 1)) != 0) = true := bne_iff_ne.mpr c9
  obtain ⟨ji10, hji10⟩ : ∃ j_ : Int, (Int.tmod (wrap64 ((wrap64 ((a0.size : Int) - 1)) - (GTab.lg a0 a1))) (wrap64 ((a0.size : Int) - 1))) = j_ := ⟨_, rfl⟩
  first | rw [hji10] at H | simp only [hji10] at H
  by_cases c11 : 0 ≤ (ji10)
  rotate_left
  ·rw [if_neg c11] at H
   exact absurd H (by simp)
  rw [if_pos c11] at H
  have c11b0 : decide (0 ≤ (ji10)) = true := decide_eq_true c11
  clear c11
  by_cases c12 : (ji10) < 256
  rotate_left
  ·rw [if_neg c12] at H
   exact absurd H (by simp)
  rw [if_pos c12] at H
  have c12b0 : decide ((ji10) < 256) = true := decide_eq_true c12
  clear c12
  obtain rfl := Option.some.inj H
  have ho4 := gal_At_size HT0.out
  have hx4 := ho4
  have p7 : 0 ≤ (a1 : Int) := of_decide_eq_true (by first | (with_reducible assumption) | assumption)
  have q7 : (a1 : Int) < 256 := of_decide_eq_true (by first | (with_reducible assumption) | assumption)
  have ho7 := gal_At_log HT0.out a1 p7 q7
  have hx7 := ho7
  replace p7 := eq_true p7
  replace q7 := eq_true q7
  have ho8 := gal_At_size HT0.out
  have hx8 := ho8
  have p13 : 0 ≤ (ji10 : Int) := of_decide_eq_true (by first | (with_reducible assumption) | assumption)
  have q13 : (ji10 : Int) < 256 := of_decide_eq_true (by first | (with_reducible assumption) | assumption)
  have ho13 := gal_At_exp HT0.out ji10 p13 q13
  have hx13 := ho13
  replace p13 := eq_true p13
  replace q13 := eq_true q13
  go_enter Try.func42, Try.ntmps42
  go_wp2
  repeat (go_quiet (fail); try go_wp2)
  go_ret
  exact ⟨by first | rfl | (simp; done) | (simp only [← hji10] <;> (first | rfl | simp)) | (simp [*]; done) | (simp [wrap64]; done), by repeat (first | exact Drawn0.refl _ | apply Drawn0.step)⟩
end Go.Proofs.Ytjdkamhnbheofaa.P

-- squeezed
