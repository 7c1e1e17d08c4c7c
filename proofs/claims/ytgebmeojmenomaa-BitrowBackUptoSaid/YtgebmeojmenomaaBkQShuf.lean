/- What Shuffle, Unshuffle, place and within come to. -/
import Derived.Test.YtgebmeojmenomaaBkQOrd
import Derived.Test.YtgebmeojmenomaaBkQBit2
import Derived.Test.YtgebmeojmenomaaBkQEv
import Derived.Test.YtgebmeojmenomaaBkPx10
set_option linter.unusedVariables false
set_option linter.unusedSimpArgs false
namespace Go.Proofs.YtgebmeojmenomaaW.Q
open Go.RowKit Go.Proofs.YtgebmeojmenomaaW.PrintWords Go.Proofs.YtgebmeojmenomaaW.PrintLast Go.Proofs.YtgebmeojmenomaaW.PrintMore Go.Proofs.Ytgebmeojmenomaa.P
def colK (n c : Nat) : Nat → Nat
  | 0 => 0
  | k + 1 => ord n c k % c
def atK (n c : Nat) : Nat → Nat
  | 0 => 0
  | k + 1 => ord n c k + c
theorem next_ord {n c k : Nat} (hc : 0 < c) (hn : c ≤ n) (hN : n ≤ 281474976710656) (hk : k < n) :
    bitrow_next (n : Int) (c : Int) (colK n c k : Int) (atK n c k : Int) = some ((ord n c k : Int), (colK n c (k + 1) : Int), (atK n c (k + 1) : Int)) := by
  have h1 := (ord_ok hc hn k hk).1
  unfold bitrow_next
  cases k with
  | zero =>
    rw [show colK n c 0 = 0 from rfl, show atK n c 0 = 0 from rfl, show colK n c (0 + 1) = 0 % c from rfl, show atK n c (0 + 1) = 0 + c from rfl, show ord n c 0 = 0 from rfl, if_pos (by omega), w64 (by omega) (by omega)]
    simp
  | succ k =>
    have h2 := (ord_ok hc hn k (by omega)).1
    have h5 := Nat.mod_lt (ord n c k) hc
    rw [show colK n c (k + 1) = ord n c k % c from rfl, show atK n c (k + 1) = ord n c k + c from rfl, show colK n c (k + 1 + 1) = ord n c (k + 1) % c from rfl, show atK n c (k + 1 + 1) = ord n c (k + 1) + c from rfl]
    by_cases h : ord n c k + c < n
    · have e : ord n c (k + 1) = ord n c k + c := by rw [ord, if_pos h]
      rw [if_pos (by omega), e, Nat.add_mod_right, w64 (by omega) (by omega)]
      simp
    · have e : ord n c (k + 1) = ord n c k % c + 1 := by rw [ord, if_neg h]
      have h4 := ord_new hc hn hk h
      rw [if_neg (by omega), w64s (by omega), if_pos (by omega), e, Nat.mod_eq_of_lt h4, w64 (by omega) (by omega)]
      simp
theorem shuf_run (X : List Nat) {c : Nat} (hc : 0 < c) (hn : c ≤ X.length) (hN : X.length ≤ 281474976710656) (d : Nat) : ∀ (i : Nat) (out : List Nat), i + d = X.length → out.length = X.length → out.take i = (shufL X c).take i →
    bitrow_shuf (X.length : Int) (c : Int) (ints X) d (ints out) (i : Int) (colK X.length c i : Int) (atK X.length c i : Int) = some (ints (shufL X c)) := by
  induction d with
  | zero =>
    intro i out hi ho ht
    simp only [bitrow_shuf]
    rw [List.take_of_length_le (by omega), List.take_of_length_le (by rw [shufL_length]; omega)] at ht
    rw [ht]
  | succ d ih =>
    intro i out hi ho ht
    have h1 := (ord_ok hc hn i (by omega)).1
    simp only [bitrow_shuf]
    rw [next_ord hc hn hN (by omega)]
    simp only [Option.bind_some]
    rw [if_pos (by omega), ints_length, if_pos (by omega), rd_ints, set_ints, show (i : Int) + 1 = ((i + 1 : Nat) : Int) by omega]
    refine ih (i + 1) _ (by omega) (by rw [List.length_set]; exact ho) (fill_step (by rw [shufL_length]; omega) (by rw [shufL_length]; exact ho) ht ?_)
    simp [shufL]
theorem unshuf_run (X : List Nat) {c : Nat} (hc : 0 < c) (hn : c ≤ X.length) (hN : X.length ≤ 281474976710656) (d : Nat) : ∀ (i : Nat) (out : List Nat), i + d = X.length → out.length = X.length → (∀ p, p < X.length → out.getD p 0 = if idx X.length c p < i then X.getD (idx X.length c p) 0 else 0) →
    bitrow_unshuf (X.length : Int) (c : Int) (ints X) d (ints out) (i : Int) (colK X.length c i : Int) (atK X.length c i : Int) = some (ints (unshL X c)) := by
  induction d with
  | zero =>
    intro i out hi ho ht
    simp only [bitrow_unshuf]
    have e : out = unshL X c := list_of_getD (by rw [unshL_length]; exact ho) fun p hp => by
      rw [ho] at hp
      rw [ht p hp, if_pos (by have := idx_lt (n := X.length) hc hp; omega), unshL, map_range_getD _ hp]
    rw [e]
  | succ d ih =>
    intro i out hi ho ht
    obtain ⟨h1, h2⟩ := ord_ok hc hn i (by omega)
    simp only [bitrow_unshuf]
    rw [next_ord hc hn hN (by omega)]
    simp only [Option.bind_some]
    rw [if_pos (by omega), ints_length, if_pos (by omega), rd_ints, set_ints, show (i : Int) + 1 = ((i + 1 : Nat) : Int) by omega]
    refine ih (i + 1) _ (by omega) (by rw [List.length_set]; exact ho) fun p hp => ?_
    by_cases e : ord X.length c i = p
    · subst e
      rw [getD_set_self (by omega), h2, if_pos (by omega)]
    · rw [getD_set_ne e, ht p hp]
      have hne : idx X.length c p ≠ i := fun h => e (idx_inj hc h1 hp (by rw [h2, h]))
      by_cases h3 : idx X.length c p < i
      · rw [if_pos h3, if_pos (by omega)]
      · rw [if_neg h3, if_neg (by omega)]
theorem cols_int (n : Nat) (rows : Nat) (hr : 0 < rows) (hr2 : rows ≤ 64) (hN : n ≤ 281474976710656) : wrap64 (Int.tdiv (wrap64 (wrap64 ((n : Int) + (rows : Int)) - 1)) (rows : Int)) = (cols n rows : Int) := by
  have h : (n + rows - 1) / rows ≤ n + rows - 1 := Nat.div_le_self _ _
  have z := Int.natCast_nonneg ((n + rows - 1) / rows)
  rw [w64 (n := (n : Int) + (rows : Int)) (by omega) (by omega), w64 (n := (n : Int) + (rows : Int) - 1) (by omega) (by omega), show (n : Int) + (rows : Int) - 1 = ((n + rows - 1 : Nat) : Int) by omega, tdiv_nat, w64 (by omega) (by omega)]
  rfl
/-- What Shuffle and Unshuffle answer. -/
def shfA (X : List Nat) (rows : Int) : List Int × Int := if rows < 1 then ([], 1) else if rows > 64 then ([], 1) else (ints (shufL X (cols X.length rows.toNat)), 0)
def ushA (X : List Nat) (rows : Int) : List Int × Int := if rows < 1 then ([], 1) else if rows > 64 then ([], 1) else (ints (unshL X (cols X.length rows.toNat)), 0)
theorem Shuffle_f (X : List Nat) (rows : Int) (hN : X.length ≤ 281474976710656) : bitrow_Shuffle.f (ints X) rows = some (shfA X rows) := by
  unfold bitrow_Shuffle.f shfA
  by_cases h1 : rows < 1
  · rw [if_pos h1, if_pos h1]
  rw [if_neg h1, if_neg h1]
  by_cases h2 : rows > 64
  · rw [if_pos h2, if_pos h2]
  obtain ⟨r, rfl⟩ : ∃ r : Nat, rows = (r : Int) := ⟨rows.toNat, by omega⟩
  rw [if_neg h2, if_neg h2, ints_length, if_pos hN, cols_int _ _ (by omega) (by omega) hN, Int.toNat_natCast, ← ints_replicate]
  by_cases h3 : X.length = 0
  · rw [List.length_eq_zero_iff] at h3
    subst h3
    rfl
  · obtain ⟨h4, h5⟩ := cols_pos (n := X.length) (rows := r) (by omega) (by omega)
    have e := shuf_run X h4 h5 hN X.length 0 (List.replicate X.length 0) (by omega) (by simp) (by simp)
    simp only [colK, atK] at e
    rw [show ((0 : Nat) : Int) = 0 from rfl] at e
    rw [e]
    rfl
theorem Unshuffle_f (X : List Nat) (rows : Int) (hN : X.length ≤ 281474976710656) : bitrow_Unshuffle.f (ints X) rows = some (ushA X rows) := by
  unfold bitrow_Unshuffle.f ushA
  by_cases h1 : rows < 1
  · rw [if_pos h1, if_pos h1]
  rw [if_neg h1, if_neg h1]
  by_cases h2 : rows > 64
  · rw [if_pos h2, if_pos h2]
  obtain ⟨r, rfl⟩ : ∃ r : Nat, rows = (r : Int) := ⟨rows.toNat, by omega⟩
  rw [if_neg h2, if_neg h2, ints_length, if_pos hN, cols_int _ _ (by omega) (by omega) hN, Int.toNat_natCast, ← ints_replicate]
  by_cases h3 : X.length = 0
  · rw [List.length_eq_zero_iff] at h3
    subst h3
    rfl
  · obtain ⟨h4, h5⟩ := cols_pos (n := X.length) (rows := r) (by omega) (by omega)
    have e := unshuf_run X h4 h5 hN X.length 0 (List.replicate X.length 0) (by omega) (by simp) (fun p hp => by rw [if_neg (by omega), List.getD_eq_getElem?_getD, List.getElem?_replicate]; split <;> rfl)
    simp only [colK, atK] at e
    rw [show ((0 : Nat) : Int) = 0 from rfl] at e
    rw [e]
    rfl
/-- n brought into lo to hi. -/
theorem within_f (x lo hi : Int) (hx0 : -9223372036854775808 ≤ x) (hx1 : x ≤ 9223372036854775807) (h0 : 0 ≤ lo) (h1 : lo ≤ hi) (h2 : hi ≤ 281474976710656) : ∃ v, outpostlaw01_within.f x lo hi = some v ∧ lo ≤ v ∧ v ≤ hi := by
  unfold outpostlaw01_within.f
  rw [w64 (n := hi - lo) (by omega) (by omega), w64 (n := hi - lo + 1) (by omega) (by omega), if_neg (by omega)]
  generalize hm : hi - lo + 1 = m
  have hm0 : 0 < m := by omega
  have b1 := Int.tmod_lt_of_pos x hm0
  have b2 := Int.lt_tmod_of_pos x hm0
  rw [w64 (n := Int.tmod x m + m) (by omega) (by omega)]
  have b3 := Int.tmod_lt_of_pos (Int.tmod x m + m) hm0
  have b4 := Int.tmod_nonneg (a := Int.tmod x m + m) m (by omega)
  exact ⟨_, rfl, by rw [w64 (by omega) (by omega)]; omega, by rw [w64 (by omega) (by omega)]; omega⟩
theorem place_after (u : List Nat) (P : Nat) (hP : P < u.length) (hN : u.length ≤ 281474976710656) (hu : ∀ p, p < u.length → u.getD p 0 = if p = P then 1 else 0) (d : Nat) : ∀ k x, x + d = u.length → P < x → 2 * d < k →
    outpostlaw01_place.l0 k (u.length : Int) (ints u) (P : Int) (x : Int) = some (P : Int) := by
  induction d with
  | zero =>
    intro k x hx hp hk
    obtain ⟨k, rfl⟩ : ∃ m, k = m + 1 := ⟨k - 1, by omega⟩
    simp only [outpostlaw01_place.l0]
    rw [if_neg (by omega)]
  | succ d ih =>
    intro k x hx hp hk
    obtain ⟨k, rfl⟩ : ∃ m, k = m + 2 := ⟨k - 2, by omega⟩
    have e := hu x (by omega)
    rw [if_neg (by omega)] at e
    simp only [outpostlaw01_place.l0, outpostlaw01_place.j2]
    rw [if_pos (by omega), if_pos (by omega), ints_length, if_pos (by omega), rd_ints, e, if_neg (by decide)]
    simp only [Bool.false_eq_true, if_false]
    rw [if_pos (by omega), if_pos (by omega), if_pos (by rfl), w64s (by omega)]
    exact ih k (x + 1) (by omega) (by omega) (by omega)
theorem place_before (u : List Nat) (P : Nat) (hP : P < u.length) (hN : u.length ≤ 281474976710656) (hu : ∀ p, p < u.length → u.getD p 0 = if p = P then 1 else 0) (d : Nat) : ∀ k x, x + d = u.length → x ≤ P → 2 * d < k →
    outpostlaw01_place.l0 k (u.length : Int) (ints u) (-1) (x : Int) = some (P : Int) := by
  induction d with
  | zero =>
    intro k x hx hp hk
    omega
  | succ d ih =>
    intro k x hx hp hk
    obtain ⟨k, rfl⟩ : ∃ m, k = m + 2 := ⟨k - 2, by omega⟩
    have e := hu x (by omega)
    simp only [outpostlaw01_place.l0, outpostlaw01_place.j2]
    rw [if_pos (by omega), if_pos (by omega), ints_length, if_pos (by omega), rd_ints, e]
    by_cases h : x = P
    · rw [if_pos h]
      subst h
      rw [if_pos (by rfl), decide_eq_true (by omega), if_pos rfl, w64s (by omega)]
      exact place_after u x hP hN hu d k (x + 1) (by omega) (by omega) (by omega)
    · rw [if_neg h, if_neg (by decide)]
      simp only [Bool.false_eq_true, if_false]
      rw [if_pos (by omega), if_pos (by omega), if_pos (by rfl), w64s (by omega)]
      exact ih k (x + 1) (by omega) (by omega) (by omega)
theorem place_f (n i rows : Nat) (hi : i < n) (hN : n ≤ 281474976710656) (hr : 0 < rows) (hr2 : rows ≤ 64) : Ev (fun k => outpostlaw01_place.f k (n : Int) (i : Int) (rows : Int)) (ord n (cols n rows) i : Int) := by
  obtain ⟨h4, h5⟩ := cols_pos (n := n) (rows := rows) hr (by omega)
  refine Ev.intro (2 * n + 2) fun k hk => ?_
  unfold outpostlaw01_place.f
  rw [if_pos (by omega), Int.toNat_natCast, if_pos (by omega)]
  simp only [Option.bind_some]
  have hu := Unshuffle_f ((List.replicate n 0).set i 1) (rows : Int) (by simp; omega)
  unfold ushA at hu
  rw [if_neg (by omega), if_neg (by omega), Int.toNat_natCast, ← set_ints', ints_replicate] at hu
  rw [if_pos (by omega), List.length_replicate, if_pos (by omega), Int.toNat_natCast, show (1 : Int) = ((1 : Nat) : Int) from rfl, hu]
  obtain ⟨k, rfl⟩ : ∃ m, k = m + 1 := ⟨k - 1, by omega⟩
  simp only [Option.bind_some, outpostlaw01_num.f, if_true, outpostlaw01_place.j0]
  have hl : (unshL ((List.replicate n 0).set i 1) (cols ((List.replicate n 0).set i 1).length rows)).length = n := by rw [unshL_length]; simp
  rw [ints_length, hl, bne_self_eq_false, if_neg (by decide)]
  have h6 := (ord_ok h4 h5 i hi).1
  have := place_before _ (ord n (cols n rows) i) (by rw [hl]; exact h6) (by rw [hl]; exact hN) (fun p hp => by
    rw [hl] at hp
    rw [unshL, map_range_getD _ (by simpa using hp)]
    have e : ((List.replicate n 0).set i 1).length = n := by simp
    rw [e]
    by_cases hpo : p = ord n (cols n rows) i
    · rw [if_pos hpo, hpo, (ord_ok h4 h5 i hi).2, getD_set_self (by simpa using hi)]
    · have hne : i ≠ idx n (cols n rows) p := fun h => hpo (by rw [h, ord_idx h4 h5 hp])
      rw [if_neg hpo, getD_set_ne hne, List.getD_eq_getElem?_getD, List.getElem?_replicate]
      split <;> rfl) n k 0 (by rw [hl]; omega) (by omega) (by omega)
  rw [hl] at this
  exact this
end Go.Proofs.YtgebmeojmenomaaW.Q
