/- Rows woven, unwoven and compared: what Weave, Unweave and SameRows come to. -/
import Derived.Test.YtgebmeojmenomaaBkQOrd
import Derived.Test.YtgebmeojmenomaaBkQBit2
import Derived.Test.YtgebmeojmenomaaBkQEv
import Derived.Test.YtgebmeojmenomaaBkPx13
set_option linter.unusedVariables false
set_option linter.unusedSimpArgs false
namespace Go.Proofs.YtgebmeojmenomaaW.Q
open Go.RowKit Go.Proofs.YtgebmeojmenomaaW.PrintWords Go.Proofs.YtgebmeojmenomaaW.PrintLast Go.Proofs.YtgebmeojmenomaaW.PrintMore Go.Proofs.Ytgebmeojmenomaa.P
theorem wn (m : Nat) (h : m ≤ 281474976710656) : wrap64 (m : Int) = (m : Int) := w64 (by omega) (by omega)
theorem wn1 (m : Nat) (h : m ≤ 281474976710656) : wrap64 ((m : Int) + 1) = ((m + 1 : Nat) : Int) := w64s (by omega)
/-- Rows, as the printed functions have them. -/
def intss (R : List (List Nat)) : List (List Int) := R.map ints
theorem intss_length (R : List (List Nat)) : (intss R).length = R.length := by simp [intss]
theorem rd_L2_nat (R : List (List Nat)) (i : Nat) : rd_L2 (intss R) (i : Int) = ints (R.getD i []) := by
  simp only [rd_L2, intss, Int.toNat_natCast, List.getD_eq_getElem?_getD, List.getElem?_map]
  cases R[i]? <;> rfl
theorem intss_append (A B : List (List Nat)) : intss (A ++ B) = intss A ++ intss B := by simp [intss]
theorem SameRows_l0 (l : List (List Int)) (hl : l.length ≤ 281474976710656) (d : Nat) : ∀ k i : Nat, i + d = l.length → d < k → outpostlaw01_SameRows.l0 k l l (i : Int) = some true := by
  induction d with
  | zero =>
    intro k i hi hk
    obtain ⟨k, rfl⟩ : ∃ m, k = m + 1 := ⟨k - 1, by omega⟩
    simp only [outpostlaw01_SameRows.l0]
    rw [if_neg (by omega)]
  | succ d ih =>
    intro k i hi hk
    obtain ⟨k, rfl⟩ : ∃ m, k = m + 1 := ⟨k - 1, by omega⟩
    simp only [outpostlaw01_SameRows.l0]
    rw [if_pos (by omega), if_pos (by omega), if_pos (by omega)]
    simp only [if_true]
    rw [w64s (by omega)]
    exact ih k (i + 1) (by omega) (by omega)
theorem SameRows_f (l : List (List Int)) (hl : l.length ≤ 281474976710656) : Ev (fun k => outpostlaw01_SameRows.f k l l) true :=
  Ev.intro (l.length + 1) fun k hk => by
    unfold outpostlaw01_SameRows.f
    rw [if_pos rfl]
    exact SameRows_l0 l hl l.length k 0 (by omega) (by omega)
/-- Rows of m bytes, by turns. -/
def weaveL (R : List (List Nat)) (m : Nat) : List Nat := (List.range (m * R.length)).map fun p => (R.getD (p % R.length) []).getD (p / R.length) 0
theorem weaveL_length (R : List (List Nat)) (m : Nat) : (weaveL R m).length = m * R.length := by simp [weaveL]
theorem weaveL_take {R : List (List Nat)} {m i j : Nat} (hi : i < m) (hj : j < R.length) : (weaveL R m).take (i * R.length + j + 1) = (weaveL R m).take (i * R.length + j) ++ [(R.getD j []).getD i 0] := by
  have hb : i * R.length + j < m * R.length := by
    have := Nat.mul_le_mul_right R.length (show i + 1 ≤ m from hi)
    rw [Nat.succ_mul] at this
    omega
  rw [List.take_succ_eq_append_getElem (by rw [weaveL_length]; exact hb)]
  have e1 : (i * R.length + j) % R.length = j := by rw [Nat.add_comm, Nat.add_mul_mod_self_right, Nat.mod_eq_of_lt hj]
  have e2 : (i * R.length + j) / R.length = i := by rw [Nat.add_comm, Nat.add_mul_div_right _ _ (by omega), Nat.div_eq_of_lt hj, Nat.zero_add]
  simp [weaveL, e1, e2]
theorem Weave_l2 (R : List (List Nat)) (m : Nat) (hm : ∀ j, j < R.length → (R.getD j []).length = m) (hs : m * R.length ≤ 140737488355327) (hR : R.length ≤ 140737488355327) (hm2 : m ≤ 140737488355327) (d : Nat) : ∀ k i j : Nat, i < m → j < R.length → i * R.length + j + (d + 1) = m * R.length → 3 * d + 6 ≤ k →
    bitrow_Weave.l2 k (intss R) (ints ((weaveL R m).take (i * R.length + j))) (i : Int) (m : Int) (i : Int) (intss R) (R.length : Int) (j : Int) = some (ints (weaveL R m), 0) := by
  induction d with
  | zero =>
    intro k i j hi hj ht hk
    obtain ⟨k, rfl⟩ : ∃ q, k = q + 3 := ⟨k - 3, by omega⟩
    have hb := Nat.mul_le_mul_right R.length (show i + 1 ≤ m from hi)
    rw [Nat.succ_mul] at hb
    have hj1 : j + 1 = R.length := by omega
    have hi1 : i + 1 = m := by
      rcases (show i + 1 = m ∨ i + 2 ≤ m by omega) with h | h
      · exact h
      · have h2 := Nat.mul_le_mul_right R.length h
        rw [Nat.add_mul] at h2
        omega
    have e := hm j hj
    have hl : (ints ((weaveL R m).take (i * R.length + j))).length = i * R.length + j := by rw [ints_length, List.length_take, weaveL_length]; omega
    simp only [bitrow_Weave.l2, bitrow_Weave.l1]
    rw [if_pos (by omega), if_pos (by omega), intss_length, if_pos (by omega), if_pos (by omega), rd_L2_nat, ints_length, e, if_pos (by omega), hl, if_pos (by omega), w64s (by omega), if_neg (by omega), w64s (by omega), if_neg (by omega), rd_ints, show [(((R.getD j []).getD i 0 : Nat) : Int)] = ints [(R.getD j []).getD i 0] from rfl, ← ints_append, ← weaveL_take hi hj, List.take_of_length_le (by rw [weaveL_length]; omega)]
  | succ d ih =>
    intro k i j hi hj ht hk
    obtain ⟨k, rfl⟩ : ∃ q, k = q + 3 := ⟨k - 3, by omega⟩
    have hb := Nat.mul_le_mul_right R.length (show i + 1 ≤ m from hi)
    rw [Nat.succ_mul] at hb
    have e := hm j hj
    have hl : (ints ((weaveL R m).take (i * R.length + j))).length = i * R.length + j := by rw [ints_length, List.length_take, weaveL_length]; omega
    by_cases hj1 : j + 1 < R.length
    · have := ih (k + 2) i (j + 1) hi hj1 (by omega) (by omega)
      rw [bitrow_Weave.l2]
      rw [if_pos (by omega), if_pos (by omega), intss_length, if_pos (by omega), if_pos (by omega), rd_L2_nat, ints_length, e, if_pos (by omega), hl, if_pos (by omega), w64s (by omega), rd_ints, show [(((R.getD j []).getD i 0 : Nat) : Int)] = ints [(R.getD j []).getD i 0] from rfl, ← ints_append, ← weaveL_take hi hj]
      exact this
    · have hj2 : j + 1 = R.length := by omega
      have hi1 : i + 1 < m := by
        rcases (show i + 1 = m ∨ i + 1 < m by omega) with h | h
        · have h3 : (i + 1) * R.length = m * R.length := by rw [h]
          rw [Nat.succ_mul] at h3
          omega
        · exact h
      have h3 : (i + 1) * R.length + 0 = i * R.length + j + 1 := by rw [Nat.succ_mul]; omega
      have := ih k (i + 1) 0 hi1 (by omega) (by omega) (by omega)
      rw [h3] at this
      simp only [bitrow_Weave.l2, bitrow_Weave.l1]
      rw [if_pos (by omega), if_pos (by omega), intss_length, if_pos (by omega), if_pos (by omega), rd_L2_nat, ints_length, e, if_pos (by omega), hl, if_pos (by omega), w64s (by omega), if_neg (by omega), w64s (by omega), if_pos (by omega), rd_ints, show [(((R.getD j []).getD i 0 : Nat) : Int)] = ints [(R.getD j []).getD i 0] from rfl, ← ints_append, ← weaveL_take hi hj]
      exact this
theorem Weave_l0 (R : List (List Nat)) (m : Nat) (hm : ∀ j, j < R.length → (R.getD j []).length = m) (hs : m * R.length ≤ 140737488355327) (hR : R.length ≤ 140737488355327) (hR0 : 0 < R.length) (hm2 : m ≤ 140737488355327) (d : Nat) : ∀ k i : Nat, i + d = R.length → d + 3 * (m * R.length) + 8 < k →
    bitrow_Weave.l0 k (intss R) (m : Int) (intss R) (R.length : Int) (i : Int) = some (ints (weaveL R m), 0) := by
  induction d with
  | zero =>
    intro k i hi hk
    obtain ⟨k, rfl⟩ : ∃ q, k = q + 2 := ⟨k - 2, by omega⟩
    have e : wrap64 ((m : Int) * (R.length : Int)) = ((m * R.length : Nat) : Int) := by
      rw [← Int.natCast_mul, w64 (by omega) (by omega)]
    simp only [bitrow_Weave.l0]
    rw [if_neg (by omega), intss_length, e, if_pos (Int.natCast_nonneg _), Int.toNat_natCast, if_pos (Nat.le_trans hs (by decide))]
    clear e
    simp only [bitrow_Weave.l1]
    by_cases h0 : m = 0
    · subst h0
      rw [if_neg (by omega)]
      simp [weaveL, ints]
    · rw [if_pos (by omega), intss_length]
      obtain ⟨d, hd⟩ : ∃ d, d + 1 = m * R.length := ⟨m * R.length - 1, by have := Nat.mul_pos (show 0 < m by omega) hR0; omega⟩
      have := Weave_l2 R m hm hs hR hm2 d k 0 0 (by omega) hR0 (by omega) (by omega)
      rw [Nat.zero_mul, Nat.zero_add, List.take_zero, ints_nil] at this
      exact this
  | succ d ih =>
    intro k i hi hk
    obtain ⟨k, rfl⟩ : ∃ q, k = q + 1 := ⟨k - 1, by omega⟩
    have e := hm i (by omega)
    simp only [bitrow_Weave.l0]
    rw [if_pos (by omega), if_pos (by omega), intss_length, if_pos (by omega), rd_L2_nat, ints_length, e, if_pos rfl, w64s (by omega)]
    exact ih k (i + 1) (by omega) (by omega)
theorem Weave_f (R : List (List Nat)) (m : Nat) (hm : ∀ j, j < R.length → (R.getD j []).length = m) (hs : m * R.length ≤ 140737488355327) (hR : R.length ≤ 140737488355327) (hR0 : 0 < R.length) (hm2 : m ≤ 140737488355327) : Ev (fun k => bitrow_Weave.f k (intss R)) (ints (weaveL R m), 0) :=
  Ev.intro (R.length + 3 * (m * R.length) + 9) fun k hk => by
    unfold bitrow_Weave.f
    have e : rd_L2 (intss R) 0 = ints (R.getD 0 []) := rd_L2_nat R 0
    rw [intss_length, if_neg (by omega), if_pos (by omega), e, ints_length, hm 0 hR0]
    exact Weave_l0 R m hm hs hR hR0 hm2 R.length k 0 (by omega) (by omega)
/-- n rows of `each` bytes. -/
def unwL (X : List Nat) (n each : Nat) : List (List Nat) := (List.range n).map fun j => (List.range each).map fun k => X.getD (k * n + j) 0
theorem unwL_ints (X : List Nat) (n each : Nat) : bitrow_unwRows (ints X) n each = intss (unwL X n each) := by
  simp only [bitrow_unwRows, bitrow_unwRow, intss, unwL, List.map_map]
  refine List.map_congr_left fun j _ => ?_
  simp only [Function.comp_apply, ints, List.map_map]
  refine List.map_congr_left fun k _ => ?_
  have := rd_ints X (k * n + j)
  simp only [rd, Int.toNat_natCast] at this
  exact this
theorem unwL_length (X : List Nat) (n each : Nat) : (unwL X n each).length = n := by simp [unwL]
theorem unwL_getD {X : List Nat} {n each j : Nat} (hj : j < n) : (unwL X n each).getD j [] = (List.range each).map fun k => X.getD (k * n + j) 0 := by
  simp [unwL, List.getD_eq_getElem?_getD, hj]
/-- Rows of one length, woven and unwoven. -/
theorem unw_weave {R : List (List Nat)} {m : Nat} (hm : ∀ j, j < R.length → (R.getD j []).length = m) : unwL (weaveL R m) R.length m = R := by
  refine List.ext_getElem (unwL_length _ _ _) fun j h1 h2 => ?_
  have e := unwL_getD (X := weaveL R m) (each := m) h2
  rw [List.getD_eq_getElem?_getD, List.getElem?_eq_getElem h1] at e
  have e2 := hm j h2
  rw [List.getD_eq_getElem?_getD, List.getElem?_eq_getElem h2] at e2
  simp only [Option.getD_some] at e e2
  rw [e]
  refine list_of_getD (by simp [e2]) fun k hk => ?_
  have hk2 : k < m := by simpa using hk
  have hb : k * R.length + j < m * R.length := by
    have := Nat.mul_le_mul_right R.length (show k + 1 ≤ m from hk2)
    rw [Nat.succ_mul] at this
    omega
  rw [map_range_getD _ hk2, weaveL, map_range_getD _ hb, Nat.add_comm, Nat.add_mul_mod_self_right, Nat.mod_eq_of_lt h2, Nat.add_mul_div_right _ _ (by omega), Nat.div_eq_of_lt h2, Nat.zero_add]
  simp [List.getD_eq_getElem?_getD, List.getElem?_eq_getElem h2]
theorem Unweave_f (X : List Nat) (n each : Nat) (hn : 0 < n) (hn2 : n ≤ 64) (hl : X.length = each * n) (hs : X.length ≤ 281474976710656) : bitrow_Unweave.f (ints X) (n : Int) = some (intss (unwL X n each), 0) := by
  unfold bitrow_Unweave.f
  rw [if_neg (by omega), if_neg (by omega), ints_length, if_pos hs, Int.toNat_natCast, hl, Nat.mul_mod_left, if_neg (by simp)]
  by_cases h : each * n = 0
  · have h0 : each = 0 := by
      rcases Nat.mul_eq_zero.1 h with h | h
      · exact h
      · omega
    subst h0
    rw [if_pos h]
    have e : intss (unwL X n 0) = List.replicate n [] := by
      simp [intss, unwL, ints, List.eq_replicate_iff]
    rw [e]
  · rw [if_neg h, Nat.mul_div_cancel _ hn, unwL_ints]
end Go.Proofs.YtgebmeojmenomaaW.Q
