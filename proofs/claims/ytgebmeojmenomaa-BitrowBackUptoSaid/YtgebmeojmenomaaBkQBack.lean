/- There and back: packing and numbers; plain lists, no program in sight. -/
import Derived.Test.YtgebmeojmenomaaBkQBit5
import Derived.Test.YtgebmeojmenomaaBkQBit3
set_option linter.unusedVariables false
set_option linter.unusedSimpArgs false
namespace Go.Proofs.YtgebmeojmenomaaW.Q
theorem putBit_length (out : List Nat) (i x : Nat) : (putBit out i x).length = out.length := by simp [putBit]
theorem putBit_bit {out : List Nat} {i n x p : Nat} (h : Clear out i n) (hx : x ≤ 1) (hi : i < n) (hp : p ≤ i) : bitAt (putBit out i x) p = if p = i then x else bitAt out p := by
  have hlen : i / 8 < out.length := by rw [h.1]; omega
  have hb := h.byte
  unfold bitAt
  by_cases e : i / 8 = p / 8
  · rw [← e, putBit, getD_set_self hlen]
    obtain ⟨q, hq⟩ := Nat.dvd_of_mod_eq_zero hb
    rw [hq]
    have e1 : 8 - i % 8 = (7 - i % 8) + 1 := by omega
    have hpos : 0 < 2 ^ (7 - i % 8) := Nat.pow_pos (by omega)
    by_cases hpi : p = i
    · subst hpi
      rw [if_pos rfl, e1, Nat.pow_succ, Nat.mul_assoc, Nat.mul_comm x, ← Nat.mul_add, Nat.mul_div_cancel_left _ hpos]
      omega
    · rw [if_neg hpi]
      obtain ⟨r, hr⟩ : ∃ r, 7 - p % 8 = (8 - i % 8) + r := ⟨7 - p % 8 - (8 - i % 8), by omega⟩
      have hpos2 : 0 < 2 ^ (8 - i % 8) := Nat.pow_pos (by omega)
      have hlt : x * 2 ^ (7 - i % 8) < 2 ^ (8 - i % 8) := by
        rw [e1, Nat.pow_succ]
        rcases (show x = 0 ∨ x = 1 by omega) with rfl | rfl <;> omega
      have key : (2 ^ (8 - i % 8) * q + x * 2 ^ (7 - i % 8)) / 2 ^ (8 - i % 8) = q := by rw [Nat.mul_add_div hpos2, Nat.div_eq_of_lt hlt, Nat.add_zero]
      rw [hr, Nat.pow_add, ← Nat.div_div_eq_div_mul, ← Nat.div_div_eq_div_mul, key, Nat.mul_div_cancel_left _ hpos2]
  · rw [putBit, getD_set_ne e, if_neg (fun h => e (by rw [h]))]
theorem packFrom_bit (B : List Nat) (hb : ∀ x ∈ B, x ≤ 1) : ∀ (out : List Nat) (i n p : Nat), Clear out i n → i + B.length = n → p < n → bitAt (packFrom out i B) p = if p < i then bitAt out p else B.getD (p - i) 0 := by
  induction B with
  | nil =>
    intro out i n p h hn hp
    rw [packFrom, if_pos (by simp at hn; omega)]
  | cons x B ih =>
    intro out i n p h hn hp
    have hx := hb x List.mem_cons_self
    have hn' : i + 1 + B.length = n := by simp at hn; omega
    have hin : i < n := by omega
    rw [packFrom, ih (fun y hy => hb y (List.mem_cons_of_mem _ hy)) (putBit out i x) (i + 1) n p (h.put hx hin) hn' hp]
    by_cases h1 : p < i + 1
    · rw [if_pos h1, putBit_bit h hx hin (by omega)]
      by_cases h2 : p = i
      · subst h2
        rw [if_pos rfl, if_neg (by omega), Nat.sub_self]
        rfl
      · rw [if_neg h2, if_pos (by omega)]
    · rw [if_neg h1, if_neg (by omega), show p - i = (p - (i + 1)) + 1 by omega]
      rfl
theorem packFrom_len (B : List Nat) : ∀ (out : List Nat) (i : Nat), (packFrom out i B).length = out.length := by
  induction B with
  | nil => intro out i; rfl
  | cons x B ih => intro out i; rw [packFrom, ih, putBit_length]
theorem pack_len (B : List Nat) : (pack B).length = (B.length + 7) / 8 := by rw [pack, packFrom_len, List.length_replicate]
theorem packFrom_lt (B : List Nat) (hb : ∀ x ∈ B, x ≤ 1) : ∀ (out : List Nat) (i n : Nat), Clear out i n → i + B.length = n → ∀ j, (packFrom out i B).getD j 0 < 256 := by
  induction B with
  | nil => intro out i n h hn j; exact (h.2 j).1
  | cons x B ih =>
    intro out i n h hn j
    have hx := hb x List.mem_cons_self
    exact ih (fun y hy => hb y (List.mem_cons_of_mem _ hy)) _ _ n (h.put hx (by simp at hn; omega)) (by simp at hn; omega) j
theorem pack_lt {B : List Nat} (hb : ∀ x ∈ B, x ≤ 1) : ∀ x ∈ pack B, x < 256 := by
  intro x hx
  obtain ⟨j, hj, rfl⟩ := List.getElem_of_mem hx
  have := packFrom_lt B hb _ 0 B.length (Clear.start _) (by omega) j
  rw [show packFrom (List.replicate ((B.length + 7) / 8) 0) 0 B = pack B from rfl, List.getD_eq_getElem?_getD, List.getElem?_eq_getElem hj] at this
  exact this
theorem pack_bit {B : List Nat} (hb : ∀ x ∈ B, x ≤ 1) {p : Nat} (hp : p < B.length) : bitAt (pack B) p = B.getD p 0 := by
  rw [pack, packFrom_bit B hb _ 0 B.length p (Clear.start _) (by omega) hp, if_neg (by omega), Nat.sub_zero]
theorem getD_ext {A B : List Nat} (hl : A.length = B.length) (h : ∀ i, i < A.length → A.getD i 0 = B.getD i 0) : A = B := by
  refine List.ext_getElem hl fun i h1 h2 => ?_
  have := h i h1
  rwa [List.getD_eq_getElem?_getD, List.getD_eq_getElem?_getD, List.getElem?_eq_getElem h1, List.getElem?_eq_getElem h2] at this
theorem unpack_getD {B : List Nat} {n i : Nat} (h : i < n) : (unpack B n).getD i 0 = bitAt B i := by
  simp [unpack, List.getD_eq_getElem?_getD, h]
theorem unpack_pack {B : List Nat} (hb : ∀ x ∈ B, x ≤ 1) : unpack (pack B) B.length = B := by
  refine getD_ext (unpack_length _ _) fun i hi => ?_
  rw [unpack_length] at hi
  rw [unpack_getD hi, pack_bit hb hi]
theorem bitAt_le (B : List Nat) (i : Nat) : bitAt B i ≤ 1 := by unfold bitAt; omega
theorem unpack_le (B : List Nat) (n : Nat) : ∀ x ∈ unpack B n, x ≤ 1 := by
  intro x hx
  obtain ⟨i, _, rfl⟩ := List.mem_map.1 hx
  exact bitAt_le B i
theorem byte_ext {a b : Nat} (ha : a < 256) (hb : b < 256) (h : ∀ t, t < 8 → a / 2 ^ t % 2 = b / 2 ^ t % 2) : a = b := by
  refine Nat.eq_of_testBit_eq fun i => ?_
  by_cases hi : i < 8
  · rw [Nat.testBit_eq_decide_div_mod_eq, Nat.testBit_eq_decide_div_mod_eq, h i hi]
  · have e : 256 ≤ 2 ^ i := by
      calc 256 = 2 ^ 8 := rfl
        _ ≤ 2 ^ i := Nat.pow_le_pow_right (by omega) (by omega)
    rw [Nat.testBit_lt_two_pow (Nat.lt_of_lt_of_le ha e), Nat.testBit_lt_two_pow (Nat.lt_of_lt_of_le hb e)]
theorem pack_unpack {X : List Nat} (hX : ∀ x ∈ X, x < 256) : pack (unpack X (8 * X.length)) = X := by
  have hle := unpack_le X (8 * X.length)
  have hl : (pack (unpack X (8 * X.length))).length = X.length := by rw [pack_len, unpack_length]; omega
  refine getD_ext hl fun j hj => ?_
  rw [hl] at hj
  refine byte_ext (getD_lt (pack_lt hle) j) (getD_lt hX j) fun t ht => ?_
  have h1 := pack_bit hle (p := 8 * j + (7 - t)) (by rw [unpack_length]; omega)
  rw [unpack_getD (by omega)] at h1
  unfold bitAt at h1
  rw [show (8 * j + (7 - t)) / 8 = j by omega, show 7 - (8 * j + (7 - t)) % 8 = t by omega] at h1
  exact h1
theorem vld_le1 {B : List Nat} (h : ∀ x ∈ B, x ≤ 1) : vld B = true := by
  unfold vld
  rw [List.all_eq_true]
  intro x hx
  simpa using h x hx
theorem number_append (A : List Nat) (x : Nat) : ∀ v, number v (A ++ [x]) = 2 * number v A + x := by
  induction A with
  | nil => intro v; simp [number]
  | cons a A ih => intro v; simp only [List.cons_append, number]; exact ih _
theorem rowL_succ (v n : Nat) : rowL v (n + 1) = rowL (v / 2) n ++ [v % 2] := by
  simp only [rowL, List.range_succ, List.map_append, List.map_cons, List.map_nil]
  congr 1
  · refine List.map_congr_left fun i hi => ?_
    have hi2 : i < n := List.mem_range.1 hi
    rw [show n + 1 - 1 - i = (n - 1 - i) + 1 by omega, Nat.pow_succ, Nat.mul_comm, ← Nat.div_div_eq_div_mul]
  · simp
theorem number_row : ∀ (n v : Nat), v < 2 ^ n → number 0 (rowL v n) = v
  | 0, v, h => by simp at h; subst h; rfl
  | n + 1, v, h => by
    rw [rowL_succ, number_append, number_row n (v / 2) (by rw [Nat.pow_succ] at h; omega)]
    omega
theorem rowL_le (v n : Nat) : ∀ x ∈ rowL v n, x ≤ 1 := by
  intro x hx
  obtain ⟨i, _, rfl⟩ := List.mem_map.1 hx
  omega
end Go.Proofs.YtgebmeojmenomaaW.Q
