/- Polynomials over two elements, as numbers: their length. Plain numbers, no program in sight. -/
set_option linter.unusedVariables false
set_option linter.unusedSimpArgs false
namespace Go.Proofs.Ytdhnjnkjhfomiaa.Poly
def blen (x : Nat) : Nat := if x = 0 then 0 else Nat.log2 x + 1
theorem blen_lt {x : Nat} : x < 2 ^ blen x := by
  unfold blen
  by_cases h : x = 0
  · subst h; decide
  · rw [if_neg h]; exact (Nat.log2_lt h).1 (Nat.lt_succ_self _)
theorem blen_le {x : Nat} (h : x ≠ 0) : 2 ^ (blen x - 1) ≤ x := by
  unfold blen
  rw [if_neg h,Nat.add_sub_cancel]
  exact (Nat.le_log2 h).1 (Nat.le_refl _)
theorem blen_pos {x : Nat} (h : x ≠ 0) : 0 < blen x := by unfold blen; rw [if_neg h]; omega
theorem blen_eq {x k : Nat} (h1 : 2 ^ k ≤ x) (h2 : x < 2 ^ (k + 1)) : blen x = k + 1 := by
  have h0 : x ≠ 0 := by have := Nat.pow_pos (n := k) (show 0 < 2 by omega); omega
  unfold blen
  rw [if_neg h0,(Nat.log2_eq_iff h0).2 ⟨h1,h2⟩]
theorem blen_div {x s : Nat} (h : 2 ^ s ≤ x) : blen x = s + blen (x / 2 ^ s) := by
  have hp := Nat.pow_pos (n := s) (show 0 < 2 by omega)
  have hy : x / 2 ^ s ≠ 0 := by
    have := Nat.div_pos h hp
    omega
  have a := blen_le hy
  have b := @blen_lt (x / 2 ^ s)
  have c := blen_pos hy
  rw [show s + blen (x / 2 ^ s) = (s + (blen (x / 2 ^ s) - 1)) + 1 by omega]
  refine blen_eq ?_ ?_
  · rw [Nat.pow_add,Nat.mul_comm]
    exact (Nat.le_div_iff_mul_le hp).1 a
  · rw [show s + (blen (x / 2 ^ s) - 1) + 1 = blen (x / 2 ^ s) + s by omega,Nat.pow_add]
    exact (Nat.div_lt_iff_lt_mul hp).1 b
end Go.Proofs.Ytdhnjnkjhfomiaa.Poly
