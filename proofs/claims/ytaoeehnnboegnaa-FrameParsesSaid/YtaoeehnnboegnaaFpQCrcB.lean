/- Check sums: bits of strings, sealed strings, bursts; plain numbers, no program in sight. -/
import Derived.Test.YtaoeehnnboegnaaFpQCrcM
import Derived.Test.YtaoeehnnboegnaaFpQCrcW
set_option linter.unusedVariables false
set_option linter.unusedSimpArgs false
namespace Go.Proofs.Ytaoeehnnboegnaa.Crc
/-- Bit p of a string, in the order in which it is taken. -/
def sb (R : Bool) (Z : List Nat) (p : Nat) : Bool := (Z.getD (p / 8) 0).testBit (if R then p % 8 else 7 - p % 8)
def sbits (R : Bool) : List Nat → List Bool
  | [] => []
  | x :: Z => bitsOf R x ++ sbits R Z
theorem hib_get : ∀ (m y j : Nat), j < m → (hib y m)[j]? = some (y.testBit (m - 1 - j))
  | 0, _, _, h => by omega
  | m + 1, y, 0, _ => by simp [hib]
  | m + 1, y, j + 1, h => by
    simp only [hib, List.getElem?_cons_succ]
    rw [hib_get m y j (by omega)]
    congr 2
    omega
theorem lob_get : ∀ (m y j : Nat), j < m → (lob y m)[j]? = some (y.testBit j)
  | 0, _, _, h => by omega
  | m + 1, y, 0, _ => by simp [lob]
  | m + 1, y, j + 1, h => by
    simp only [lob, List.getElem?_cons_succ]
    rw [lob_get m (y / 2) j (by omega), Nat.testBit_succ]
theorem bitsOf_length (R : Bool) (x : Nat) : (bitsOf R x).length = 8 := by
  unfold bitsOf
  split
  · exact lob_length 8 x
  · exact hib_length x 8
theorem bitsOf_get (R : Bool) (x j : Nat) (h : j < 8) : (bitsOf R x)[j]? = some (x.testBit (if R then j else 7 - j)) := by
  unfold bitsOf
  cases R
  · simp only [Bool.false_eq_true, if_false]; exact hib_get 8 x j h
  · simp only [if_true]; exact lob_get 8 x j h
theorem sbits_length (R : Bool) (Z : List Nat) : (sbits R Z).length = 8 * Z.length := by
  induction Z with
  | nil => rfl
  | cons x Z ih => simp only [sbits, List.length_append, bitsOf_length, ih, List.length_cons]; omega
theorem sbits_get (R : Bool) (Z : List Nat) : ∀ p, p < 8 * Z.length → (sbits R Z)[p]? = some (sb R Z p) := by
  induction Z with
  | nil => intro p hp; simp at hp
  | cons x Z ih =>
    intro p hp
    simp only [sbits]
    by_cases h : p < 8
    · rw [List.getElem?_append_left (by rw [bitsOf_length]; exact h), bitsOf_get R x p h]
      unfold sb
      rw [show p / 8 = 0 by omega, show p % 8 = p by omega]
      rfl
    · rw [List.getElem?_append_right (by rw [bitsOf_length]; omega), bitsOf_length, ih (p - 8) (by simp at hp; omega)]
      unfold sb
      rw [show p / 8 = (p - 8) / 8 + 1 by omega, show (p - 8) % 8 = p % 8 by omega, List.getD_cons_succ]
theorem regs_sbits (R : Bool) (W P : Nat) (Z : List Nat) : ∀ c, regs R W P c Z = feeds W P c (sbits R Z) := by
  induction Z with
  | nil => intro c; rfl
  | cons x Z ih => intro c; simp only [regs, sbits]; rw [feeds_append, ih]
theorem layl_getD (R : Bool) (m v k : Nat) (h : k < m) : (layl R m v).getD k 0 = layc R m v k := by
  simp [layl, List.getD_eq_getElem?_getD, h]
theorem layl_lt (R : Bool) (m v : Nat) : ∀ x ∈ layl R m v, x < 256 := by
  intro x hx
  obtain ⟨i, _, rfl⟩ := List.mem_map.1 hx
  unfold layc
  split <;> exact Nat.mod_lt _ (by omega)
theorem testBit_byte (v s q : Nat) (h : q < 8) : (v / 2 ^ s % 256).testBit q = v.testBit (q + s) := by
  rw [show (256 : Nat) = 2 ^ 8 from rfl, Nat.testBit_mod_two_pow, Nat.testBit_div_two_pow]
  simp [h]
/-- The bits of a sum that is laid down: the sum itself, turned. -/
theorem val_layl {R : Bool} {m v : Nat} (hv : v < 2 ^ (8 * m)) : val (sbits R (layl R m v)) = turn R (8 * m) v := by
  have hl : (sbits R (layl R m v)).length = 8 * m := by rw [sbits_length, layl_length]
  refine Nat.eq_of_testBit_eq fun i => ?_
  rw [val_testBit, hl]
  by_cases hi : i < 8 * m
  · have hg := sbits_get R (layl R m v) (8 * m - 1 - i) (by rw [layl_length]; omega)
    rw [List.getD_eq_getElem?_getD, hg]
    simp only [hi, decide_true, Bool.true_and, Option.getD_some]
    unfold sb
    rw [layl_getD R m v _ (by omega)]
    cases R
    · simp only [layc, Bool.false_eq_true, if_false, turn]
      rw [testBit_byte _ _ _ (by omega)]
      congr 1
      omega
    · simp only [layc, if_true, turn]
      rw [testBit_byte _ _ _ (by omega), rev_testBit]
      simp only [hi, decide_true, Bool.true_and]
      congr 1
      omega
  · have ht : turn R (8 * m) v < 2 ^ (8 * m) := turn_lt hv
    simp only [hi, decide_false, Bool.false_and]
    exact (Nat.testBit_lt_two_pow (Nat.lt_of_lt_of_le ht (Nat.pow_le_pow_right (by omega) (by omega)))).symm
/-- A sealed string leaves one and the same register. -/
theorem regs_sealed {R : Bool} {W P I O : Nat} (h : okN W P I O) (A : List Nat) : regs R W P I (A ++ layl R (W / 8) (crc R W P I O A)) = stpN W P W (turn R W O) := by
  obtain ⟨h1, h2, h3, h4, h5⟩ := h
  obtain ⟨m, rfl⟩ : ∃ m, W = 8 * m := ⟨W / 8, by omega⟩
  have hr := regs_lt (R := R) h2 A h3
  have hv : crc R (8 * m) P I O A < 2 ^ (8 * m) := Nat.xor_lt_two_pow (turn_lt hr) h4
  rw [show 8 * m / 8 = m by omega, regs_append, regs_sbits, feeds_place _ _ _ _ (by rw [sbits_length, layl_length]; omega), val_layl hv, sbits_length, layl_length, Nat.sub_self, Nat.pow_zero, Nat.mul_one]
  congr 1
  unfold crc
  rw [turn_xor, turn_turn hr, ← Nat.xor_assoc, Nat.xor_self, Nat.zero_xor]
theorem feeds_zeros (W P k : Nat) : ∀ c, feeds W P c (List.replicate k false) = stpN W P k c := by
  induction k with
  | zero => intro c; rfl
  | succ k ih =>
    intro c
    simp only [List.replicate_succ, feeds, feed, Bool.false_eq_true, if_false, Nat.xor_zero, stpN]
    exact ih _
theorem stp_of_zero (W P : Nat) : stp W P 0 = 0 := by simp [stp]
theorem stpN_of_zero (W P n : Nat) : stpN W P n 0 = 0 := by
  induction n with
  | zero => rfl
  | succ n ih => simp only [stpN]; rw [stp_of_zero, ih]
theorem sb_add (R : Bool) : ∀ (A B : List Nat), A.length = B.length → ∀ p, p < 8 * A.length → sb R (addB A B) p = (sb R A p ^^ sb R B p) := by
  have g : ∀ (A B : List Nat), A.length = B.length → ∀ k, k < A.length → (addB A B).getD k 0 = A.getD k 0 ^^^ B.getD k 0 := by
    intro A
    induction A with
    | nil => intro B _ k hk; simp at hk
    | cons a A ih =>
      intro B hl k hk
      cases B with
      | nil => simp at hl
      | cons b B =>
        cases k with
        | zero => rfl
        | succ k => simp only [addB, List.getD_cons_succ]; exact ih B (by simpa using hl) k (by simpa using hk)
  intro A B hl p hp
  unfold sb
  rw [g A B hl _ (by omega), Nat.testBit_xor]
/-- A burst of at most W bits is told. -/
theorem burst {R : Bool} {W P I O : Nat} (h : okN W P I O) {X Z : List Nat} (hl : Z.length = X.length) (hX : ∀ x ∈ X, x < 256) (hZ : ∀ x ∈ Z, x < 256) (e : regs R W P I Z = regs R W P I X) (at_ J : Nat) (hJ : J ≤ W) (hb : at_ + J ≤ 8 * X.length) (f : Nat → Bool)
    (hp : ∀ p, p < 8 * X.length → sb R Z p = (sb R X p ^^ (decide (at_ ≤ p ∧ p < at_ + J) && f (p - at_)))) : ∀ j, j < J → f j = false := by
  obtain ⟨h1, h2, h3, h4, h5⟩ := h
  have hW : 8 ≤ W := by omega
  have z : regs R W P (I ^^^ I) (addB Z X) = 0 := by rw [regs_add hW Z X I I hl hZ hX, e, Nat.xor_self]
  rw [Nat.xor_self, regs_sbits] at z
  have le : (addB Z X).length = X.length := by rw [addB_length Z X hl, hl]
  have split : sbits R (addB Z X) = List.replicate at_ false ++ ((List.range J).map f ++ List.replicate (8 * X.length - at_ - J) false) := by
    refine List.ext_getElem? fun p => ?_
    by_cases hpl : p < 8 * X.length
    · rw [sbits_get R _ p (by rw [le]; exact hpl), sb_add R Z X hl p (by rw [hl]; exact hpl), hp p hpl]
      have ex : ∀ a b : Bool, ((a ^^ b) ^^ a) = b := by decide
      rw [ex]
      by_cases c1 : p < at_
      · rw [List.getElem?_append_left (by simpa using c1)]
        simp [c1, show ¬ at_ ≤ p by omega]
      · rw [List.getElem?_append_right (by simp; omega), List.length_replicate]
        by_cases c2 : p < at_ + J
        · rw [List.getElem?_append_left (by simp; omega)]
          simp [show at_ ≤ p by omega, c2, show p - at_ < J by omega]
        · rw [List.getElem?_append_right (by simp; omega)]
          simp only [List.length_map, List.length_range, c2, and_false, decide_false, Bool.false_and]
          rw [List.getElem?_replicate, if_pos (by omega)]
    · rw [List.getElem?_eq_none (by rw [sbits_length, le]; omega), List.getElem?_eq_none (by simp; omega)]
  rw [split, feeds_append, feeds_zeros, stpN_of_zero, feeds_append, feeds_zeros, feeds_place _ _ _ _ (by simp; exact hJ), Nat.zero_xor, List.length_map, List.length_range, ← stpN_add] at z
  have hv := val_lt ((List.range J).map f)
  rw [List.length_map, List.length_range] at hv
  have hlt : val ((List.range J).map f) * 2 ^ (W - J) < 2 ^ W := by
    have e2 : 2 ^ W = 2 ^ J * 2 ^ (W - J) := by rw [← Nat.pow_add]; congr 1; omega
    rw [e2]
    exact Nat.mul_lt_mul_of_pos_right hv (Nat.pow_pos (by omega))
  have z0 := stpN_zero (by omega) h5 h2 _ hlt z
  have v0 : val ((List.range J).map f) = 0 := by
    rcases Nat.eq_zero_or_pos (val ((List.range J).map f)) with h0 | h0
    · exact h0
    · have := Nat.mul_pos h0 (Nat.pow_pos (n := W - J) (show 0 < 2 by omega))
      omega
  intro j hj
  have t := val_testBit ((List.range J).map f) (J - 1 - j)
  rw [v0, Nat.zero_testBit, List.length_map, List.length_range, show J - 1 - (J - 1 - j) = j by omega, List.getD_eq_getElem?_getD] at t
  simp [hj, show J - 1 - j < J by omega] at t
  exact t
/-- What Unseal takes leaves the register of a sealed string. -/
theorem regs_unsealed {R : Bool} {W P I O : Nat} (h : okN W P I O) {Z : List Nat} (hl : ¬ Z.length < W / 8) (e : layl R (W / 8) (crc R W P I O (Z.take (Z.length - W / 8))) = Z.drop (Z.length - W / 8)) : regs R W P I Z = stpN W P W (turn R W O) := by
  have := regs_sealed (R := R) h (Z.take (Z.length - W / 8))
  rw [e, List.take_append_drop] at this
  exact this
/-- One bit that is turned round. -/
theorem sb_flip (R : Bool) (Z : List Nat) (k p : Nat) (hk : k / 8 < Z.length) : sb R (Z.set (k / 8) (Z.getD (k / 8) 0 ^^^ 2 ^ (if R then k % 8 else 7 - k % 8))) p = (sb R Z p ^^ decide (p = k)) := by
  unfold sb
  by_cases h : k / 8 = p / 8
  · rw [← h, List.getD_eq_getElem?_getD, List.getElem?_set_self hk]
    simp only [Option.getD_some]
    rw [Nat.testBit_xor, Nat.testBit_two_pow]
    congr 1
    cases R
    · simp only [Bool.false_eq_true, if_false]
      exact decide_eq_decide.2 ⟨fun h2 => by omega, fun h2 => by subst h2; rfl⟩
    · simp only [if_true]
      exact decide_eq_decide.2 ⟨fun h2 => by omega, fun h2 => by subst h2; rfl⟩
  · rw [List.getD_eq_getElem?_getD, List.getElem?_set_ne h, ← List.getD_eq_getElem?_getD, show decide (p = k) = false from decide_eq_false (fun h2 => h (by rw [h2])), Bool.xor_false]
end Go.Proofs.Ytaoeehnnboegnaa.Crc
