/- The order of a shuffle: plain numbers, no program in sight. -/
import Derived.Test.YtgebmeojmenomaaBkQBase
set_option linter.unusedVariables false
set_option linter.unusedSimpArgs false
namespace Go.Proofs.YtgebmeojmenomaaW.Q
/-- Place k of the shuffled order of n by c columns. -/
def ord (n c : Nat) : Nat → Nat
  | 0 => 0
  | k + 1 => if ord n c k + c < n then ord n c k + c else ord n c k % c + 1
/-- Where place p comes in that order. -/
def idx (n c p : Nat) : Nat := (p % c) * (n / c) + min (p % c) (n % c) + p / c
theorem col_len {n c p : Nat} (hc : 0 < c) (hp : p < n) : p / c < n / c + 1 ∧ (p / c = n / c → p % c < n % c) := by
  have e1 := Nat.div_add_mod n c
  have e2 := Nat.div_add_mod p c
  have h1 := Nat.mod_lt n hc
  refine ⟨?_, fun h => ?_⟩
  · have := Nat.div_le_div_right (c := c) (Nat.le_of_lt hp)
    omega
  · rw [h] at e2
    omega
theorem idx_step {n c p : Nat} (hc : 0 < c) (hn : c ≤ n) (hp : p < n) :
    (p + c < n → idx n c (p + c) = idx n c p + 1) ∧ (¬ p + c < n → (p % c + 1 < c → idx n c (p % c + 1) = idx n c p + 1) ∧ (p % c + 1 = c → idx n c p + 1 = n)) := by
  have e1 := Nat.div_add_mod n c
  have e2 := Nat.div_add_mod p c
  have h1 := Nat.mod_lt n hc
  have h2 := Nat.mod_lt p hc
  obtain ⟨h3, h4⟩ := col_len hc hp
  refine ⟨fun h => ?_, fun h => ⟨fun h5 => ?_, fun h5 => ?_⟩⟩
  · simp only [idx]
    rw [Nat.add_mod_right, Nat.add_div_right _ hc]
    omega
  · simp only [idx]
    rw [Nat.mod_eq_of_lt h5, Nat.div_eq_of_lt h5, Nat.succ_mul]
    by_cases h6 : p / c = n / c
    · have := h4 h6
      omega
    · have h7 : p / c + 1 = n / c ∨ p / c + 1 < n / c := by omega
      rcases h7 with h7 | h7
      · have h8 : ¬ p % c < n % c := by
          intro h8
          rw [← h7, Nat.mul_add, Nat.mul_one] at e1
          omega
        omega
      · have h8 : c * (p / c + 2) ≤ c * (n / c) := Nat.mul_le_mul_left _ h7
        rw [Nat.mul_add] at h8
        omega
  · simp only [idx]
    have h6 : p / c + 1 = n / c := by
      by_cases h6 : p / c = n / c
      · have := h4 h6
        omega
      · have h7 : p / c + 1 = n / c ∨ p / c + 1 < n / c := by omega
        rcases h7 with h7 | h7
        · exact h7
        · have h8 : c * (p / c + 2) ≤ c * (n / c) := Nat.mul_le_mul_left _ h7
          rw [Nat.mul_add] at h8
          omega
    have h7 : (p % c) * (n / c) + n / c = c * (n / c) := by
      have h8 := Nat.succ_mul (p % c) (n / c)
      rw [Nat.succ_eq_add_one, h5] at h8
      omega
    omega
theorem idx_lt {n c p : Nat} (hc : 0 < c) (hp : p < n) : idx n c p < n := by
  have e1 := Nat.div_add_mod n c
  have h2 := Nat.mod_lt p hc
  obtain ⟨h3, h4⟩ := col_len hc hp
  have h5 : (p % c + 1) * (n / c) ≤ c * (n / c) := Nat.mul_le_mul_right _ h2
  rw [Nat.succ_mul] at h5
  unfold idx
  by_cases h6 : p / c = n / c
  · have := h4 h6
    omega
  · omega
/-- Places of unlike columns come in their columns' order. -/
theorem idx_col {n c p q : Nat} (hc : 0 < c) (hp : p < n) (h : p % c < q % c) : idx n c p < (q % c) * (n / c) + min (q % c) (n % c) := by
  obtain ⟨h3, h4⟩ := col_len hc hp
  have h5 : (p % c + 1) * (n / c) ≤ (q % c) * (n / c) := Nat.mul_le_mul_right _ h
  rw [Nat.succ_mul] at h5
  unfold idx
  by_cases h6 : p / c = n / c
  · have := h4 h6
    omega
  · omega
theorem idx_inj {n c p q : Nat} (hc : 0 < c) (hp : p < n) (hq : q < n) (h : idx n c p = idx n c q) : p = q := by
  rcases Nat.lt_trichotomy (p % c) (q % c) with h1 | h1 | h1
  · have h2 := idx_col hc hp h1
    have h3 : (q % c) * (n / c) + min (q % c) (n % c) ≤ idx n c q := Nat.le_add_right _ _
    omega
  · have h2 : p / c = q / c := by
      unfold idx at h
      rw [h1] at h
      omega
    have e1 := Nat.div_add_mod p c
    have e2 := Nat.div_add_mod q c
    rw [h1, h2] at e1
    omega
  · have h2 := idx_col hc hq h1
    have h3 : (p % c) * (n / c) + min (p % c) (n % c) ≤ idx n c p := Nat.le_add_right _ _
    omega
theorem idx_zero {n c : Nat} : idx n c 0 = 0 := by simp [idx]
theorem ord_ok {n c : Nat} (hc : 0 < c) (hn : c ≤ n) : ∀ k, k < n → ord n c k < n ∧ idx n c (ord n c k) = k
  | 0, h => ⟨h, idx_zero⟩
  | k + 1, h => by
    obtain ⟨h1, h2⟩ := ord_ok hc hn k (by omega)
    obtain ⟨h3, h4⟩ := idx_step hc hn h1
    rw [ord]
    by_cases h5 : ord n c k + c < n
    · rw [if_pos h5]
      exact ⟨h5, by rw [h3 h5, h2]⟩
    · rw [if_neg h5]
      obtain ⟨h6, h7⟩ := h4 h5
      have h8 := Nat.mod_lt (ord n c k) hc
      by_cases h9 : ord n c k % c + 1 = c
      · have := h7 h9
        omega
      · exact ⟨by omega, by rw [h6 (by omega), h2]⟩
theorem ord_new {n c k : Nat} (hc : 0 < c) (hn : c ≤ n) (hk : k + 1 < n) (h : ¬ ord n c k + c < n) : ord n c k % c + 1 < c := by
  obtain ⟨h1, h2⟩ := ord_ok hc hn k (by omega)
  obtain ⟨_, h4⟩ := idx_step hc hn h1
  have h8 := Nat.mod_lt (ord n c k) hc
  rcases (show ord n c k % c + 1 = c ∨ ord n c k % c + 1 < c by omega) with h9 | h9
  · have := (h4 h).2 h9
    omega
  · exact h9
theorem ord_idx {n c p : Nat} (hc : 0 < c) (hn : c ≤ n) (hp : p < n) : ord n c (idx n c p) = p := by
  obtain ⟨h1, h2⟩ := ord_ok hc hn (idx n c p) (idx_lt hc hp)
  exact idx_inj hc h1 hp h2
/-- What lies near in the order comes from far apart. -/
theorem ord_far {n c i j : Nat} (hc : 0 < c) (hn : c ≤ n) (hj : j < n) (hij : i < j) (hnear : j + 1 ≤ i + n / c) : ord n c i ≠ ord n c j ∧ (ord n c j + c ≤ ord n c i + 1 ∨ ord n c i + c ≤ ord n c j + 1) := by
  obtain ⟨h1, h2⟩ := ord_ok hc hn i (by omega)
  obtain ⟨h3, h4⟩ := ord_ok hc hn j hj
  generalize hp : ord n c i = p at h1 h2 ⊢
  generalize hq : ord n c j = q at h3 h4 ⊢
  have ep := Nat.div_add_mod p c
  have eq_ := Nat.div_add_mod q c
  have lp := Nat.mod_lt p hc
  have lq := Nat.mod_lt q hc
  obtain ⟨k1, k2⟩ := col_len hc h1
  rcases Nat.lt_trichotomy (p % c) (q % c) with h | h | h
  · have h5 : q % c = p % c + 1 ∨ p % c + 2 ≤ q % c := by omega
    rcases h5 with h5 | h5
    · have h6 : q / c < p / c := by
        unfold idx at h2 h4
        rw [h5, Nat.succ_mul] at h4
        by_cases h6 : p / c = n / c
        · have := k2 h6
          omega
        · omega
      have h7 : c * (q / c + 1) ≤ c * (p / c) := Nat.mul_le_mul_left _ h6
      rw [Nat.mul_add, Nat.mul_one] at h7
      omega
    · have h6 : (p % c + 2) * (n / c) ≤ (q % c) * (n / c) := Nat.mul_le_mul_right _ h5
      rw [Nat.add_mul] at h6
      have z1 := Int.natCast_nonneg (q / c)
      have z2 := Int.natCast_nonneg (p / c)
      have z3 := Int.natCast_nonneg (n / c)
      unfold idx at h2 h4
      by_cases h7 : p / c = n / c
      · have := k2 h7
        omega
      · omega
  · have h6 : p / c < q / c := by
      unfold idx at h2 h4
      rw [h] at h2
      omega
    have h7 : c * (p / c + 1) ≤ c * (q / c) := Nat.mul_le_mul_left _ h6
    rw [Nat.mul_add, Nat.mul_one] at h7
    omega
  · have h5 := idx_col hc h3 h
    have h6 : (p % c) * (n / c) + min (p % c) (n % c) ≤ idx n c p := Nat.le_add_right _ _
    omega
/-- How many columns. -/
def cols (n rows : Nat) : Nat := (n + rows - 1) / rows
theorem cols_pos {n rows : Nat} (hr : 0 < rows) (hn : 0 < n) : 0 < cols n rows ∧ cols n rows ≤ n := by
  unfold cols
  refine ⟨Nat.div_pos (by omega) hr, ?_⟩
  have h := Nat.div_le_of_le_mul (m := n + rows - 1) (k := rows) (n := n) (by
    have : 1 * n ≤ rows * n := Nat.mul_le_mul_right _ hr
    obtain ⟨r, rfl⟩ : ∃ r, rows = r + 1 := ⟨rows - 1, by omega⟩
    obtain ⟨m, rfl⟩ : ∃ m, n = m + 1 := ⟨n - 1, by omega⟩
    rw [Nat.add_mul, Nat.mul_add]
    omega)
  exact h
/-- Written by rows, read by columns; and the other way round. -/
def shufL (X : List Nat) (c : Nat) : List Nat := (List.range X.length).map fun k => X.getD (ord X.length c k) 0
def unshL (X : List Nat) (c : Nat) : List Nat := (List.range X.length).map fun p => X.getD (idx X.length c p) 0
theorem shufL_length (X : List Nat) (c : Nat) : (shufL X c).length = X.length := by simp [shufL]
theorem unshL_length (X : List Nat) (c : Nat) : (unshL X c).length = X.length := by simp [unshL]
theorem map_range_getD (f : Nat → Nat) {n i : Nat} (h : i < n) : ((List.range n).map f).getD i 0 = f i := by
  simp [List.getD_eq_getElem?_getD, h]
theorem list_of_getD {A B : List Nat} (hl : A.length = B.length) (h : ∀ i, i < A.length → A.getD i 0 = B.getD i 0) : A = B := by
  refine List.ext_getElem hl fun i h1 h2 => ?_
  have := h i h1
  rwa [List.getD_eq_getElem?_getD, List.getD_eq_getElem?_getD, List.getElem?_eq_getElem h1, List.getElem?_eq_getElem h2] at this
theorem shuf_unsh (X : List Nat) {c : Nat} (hc : 0 < c) (hn : c ≤ X.length) : shufL (unshL X c) c = X := by
  refine list_of_getD (by rw [shufL_length, unshL_length]) fun k hk => ?_
  rw [shufL_length, unshL_length] at hk
  obtain ⟨h1, h2⟩ := ord_ok hc hn k hk
  rw [shufL, unshL_length, map_range_getD _ hk, unshL, map_range_getD _ h1, h2]
theorem unsh_shuf (X : List Nat) {c : Nat} (hc : 0 < c) (hn : c ≤ X.length) : unshL (shufL X c) c = X := by
  refine list_of_getD (by rw [unshL_length, shufL_length]) fun k hk => ?_
  rw [unshL_length, shufL_length] at hk
  rw [unshL, shufL_length, map_range_getD _ hk, shufL, map_range_getD _ (idx_lt hc hk), ord_idx hc hn hk]
end Go.Proofs.YtgebmeojmenomaaW.Q
