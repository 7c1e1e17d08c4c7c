/- What the reference's Order, Shuffle and Unshuffle come to. -/
import Derived.Test.YtgebmeojmenomaaShQShuf
import Derived.Test.YtgebmeojmenomaaShPx11
set_option linter.unusedVariables false
set_option linter.unusedSimpArgs false
namespace Go.Proofs.YtgebmeojmenomaaW.Q
open Go.RowKit Go.Proofs.YtgebmeojmenomaaW.PrintWords Go.Proofs.YtgebmeojmenomaaW.PrintLast Go.Proofs.YtgebmeojmenomaaW.PrintMore Go.Proofs.Ytgebmeojmenomaa.P
def ordL (n c t : Nat) : List Nat := (List.range t).map (ord n c)
theorem ordL_succ (n c t : Nat) : ordL n c (t + 1) = ordL n c t ++ [ord n c t] := by simp [ordL, List.range_succ]
theorem ordL_length (n c t : Nat) : (ordL n c t).length = t := by simp [ordL]
theorem Order_l1 {n c : Nat} (hc : 0 < c) (hn : c ≤ n) (hN : n ≤ 1099511627776) (d : Nat) : ∀ (k t p : Nat), t + (d + 1) = n → ord n c t = p → p < n → 3 * d + 6 ≤ k →
    outpostref01_Order.l1 k (n : Int) (c : Int) (ints (ordL n c t)) ((p % c : Nat) : Int) (p : Int) = some (ints (ordL n c n)) := by
  induction d with
  | zero =>
    intro k t p ht hp hpn hk
    obtain ⟨k, rfl⟩ : ∃ m, k = m + 3 := ⟨k - 3, by omega⟩
    obtain ⟨h1, h2⟩ := ord_ok hc hn t (by omega)
    rw [hp] at h2
    obtain ⟨h3, h4⟩ := idx_step hc hn hpn
    have h5 : ¬ p + c < n := fun h => by
      have := h3 h
      have := idx_lt hc h
      omega
    have h6 : p % c + 1 = c := by
      have h7 := Nat.mod_lt p hc
      rcases (show p % c + 1 = c ∨ p % c + 1 < c by omega) with h8 | h8
      · exact h8
      · have := (h4 h5).1 h8
        have := idx_lt (n := n) hc (show p % c + 1 < n by omega)
        omega
    simp only [outpostref01_Order.l1, outpostref01_Order.l0]
    rw [if_pos (by omega), ints_length, ordL_length, if_pos (by omega), w64 (n := (p : Int) + (c : Int)) (by omega) (by omega), if_neg (by omega), w64s (by omega), if_neg (by omega)]
    rw [show [(p : Int)] = ints [p] from rfl, ← ints_append, ← hp, ← ordL_succ, ht]
  | succ d ih =>
    intro k t p ht hp hpn hk
    obtain ⟨k, rfl⟩ : ∃ m, k = m + 3 := ⟨k - 3, by omega⟩
    obtain ⟨h1, h2⟩ := ord_ok hc hn t (by omega)
    have e : ints (ordL n c t) ++ [(p : Int)] = ints (ordL n c (t + 1)) := by rw [show [(p : Int)] = ints [p] from rfl, ← ints_append, ← hp, ← ordL_succ]
    have o : ord n c (t + 1) = if ord n c t + c < n then ord n c t + c else ord n c t % c + 1 := rfl
    rw [hp] at o
    simp only [outpostref01_Order.l1]
    rw [if_pos (by omega), ints_length, ordL_length, if_pos (by omega), e, w64 (n := (p : Int) + (c : Int)) (by omega) (by omega)]
    by_cases h : p + c < n
    · rw [if_pos h] at o
      have := ih (k + 2) (t + 1) (p + c) (by omega) o h (by omega)
      rw [Nat.add_mod_right] at this
      simp only [outpostref01_Order.l1] at this
      rw [show (p : Int) + (c : Int) = ((p + c : Nat) : Int) by omega]
      exact this
    · rw [if_neg h] at o
      have h4 := ord_new hc hn (k := t) (by omega) (by rw [hp]; exact h)
      rw [hp] at h4
      have := ih k (t + 1) (p % c + 1) (by omega) o (by omega) (by omega)
      rw [Nat.mod_eq_of_lt h4] at this
      rw [if_neg (by omega), w64s (by omega)]
      simp only [outpostref01_Order.l0]
      rw [if_pos (by omega)]
      exact this
theorem Order_f (n rows : Nat) (hr : 0 < rows) (hr2 : rows ≤ 64) (hN : n ≤ 1099511627776) : Ev (fun k => outpostref01_Order.f k (n : Int) (rows : Int)) (ints (ordL n (cols n rows) n)) := by
  unfold outpostref01_Order.f
  rw [cols_int n rows hr hr2 (by omega)]
  simp only [if_neg (show ¬ ((rows : Int) = 0) by omega)]
  by_cases h : n = 0
  · subst h
    have e : cols 0 rows = 0 := by
      unfold cols
      exact Nat.div_eq_of_lt (by omega)
    rw [e]
    refine Ev.succ ?_
    simp only [outpostref01_Order.l0]
    exact Ev.now _
  · obtain ⟨hc, hn⟩ := cols_pos (n := n) (rows := rows) hr (by omega)
    refine Ev.intro (3 * n + 8) fun k hk => ?_
    obtain ⟨k, rfl⟩ : ∃ m, k = m + 1 := ⟨k - 1, by omega⟩
    simp only [outpostref01_Order.l0]
    rw [if_pos (by omega)]
    have := Order_l1 hc hn hN (n - 1) k 0 0 (by omega) rfl (by omega) (by omega)
    rw [Nat.zero_mod] at this
    exact this
theorem RShuffle_l0 (X : List Nat) {c : Nat} (hc : 0 < c) (hn : c ≤ X.length) (hN : X.length ≤ 1099511627776) (d : Nat) : ∀ (k i : Nat) (out : List Nat), i + d = X.length → out.length = X.length → out.take i = (shufL X c).take i → d < k →
    outpostref01_Shuffle.l0 k (ints X) (ints (ordL X.length c X.length)) (ints out) (i : Int) = some (ints (shufL X c), 0) := by
  induction d with
  | zero =>
    intro k i out hi ho ht hk
    obtain ⟨k, rfl⟩ : ∃ m, k = m + 1 := ⟨k - 1, by omega⟩
    simp only [outpostref01_Shuffle.l0]
    rw [ints_length, ordL_length, if_neg (by omega)]
    rw [List.take_of_length_le (by omega), List.take_of_length_le (by rw [shufL_length]; omega)] at ht
    rw [ht]
  | succ d ih =>
    intro k i out hi ho ht hk
    obtain ⟨k, rfl⟩ : ∃ m, k = m + 1 := ⟨k - 1, by omega⟩
    have h1 := (ord_ok hc hn i (by omega)).1
    have e : (ordL X.length c X.length).getD i 0 = ord X.length c i := map_range_getD _ (by omega)
    simp only [outpostref01_Shuffle.l0]
    rw [rd_ints, e, rd_ints, set_ints, ints_length, ints_length, ints_length, ordL_length, if_pos (by omega), if_pos (by omega), if_pos (by omega), if_pos (by omega), if_pos (by omega), w64s (by omega)]
    refine ih k (i + 1) _ (by omega) (by rw [List.length_set]; exact ho) (fill_step (by rw [shufL_length]; omega) (by rw [shufL_length]; exact ho) ht ?_) (by omega)
    simp [shufL]
theorem RUnshuffle_l0 (X : List Nat) {c : Nat} (hc : 0 < c) (hn : c ≤ X.length) (hN : X.length ≤ 1099511627776) (d : Nat) : ∀ (k i : Nat) (out : List Nat), i + d = X.length → out.length = X.length → (∀ p, p < X.length → out.getD p 0 = if idx X.length c p < i then X.getD (idx X.length c p) 0 else 0) → d < k →
    outpostref01_Unshuffle.l0 k (ints X) (ints (ordL X.length c X.length)) (ints out) (i : Int) = some (ints (unshL X c), 0) := by
  induction d with
  | zero =>
    intro k i out hi ho ht hk
    obtain ⟨k, rfl⟩ : ∃ m, k = m + 1 := ⟨k - 1, by omega⟩
    simp only [outpostref01_Unshuffle.l0]
    rw [ints_length, ordL_length, if_neg (by omega)]
    have e : out = unshL X c := list_of_getD (by rw [unshL_length]; exact ho) fun p hp => by
      rw [ho] at hp
      rw [ht p hp, if_pos (by have := idx_lt (n := X.length) hc hp; omega), unshL, map_range_getD _ hp]
    rw [e]
  | succ d ih =>
    intro k i out hi ho ht hk
    obtain ⟨k, rfl⟩ : ∃ m, k = m + 1 := ⟨k - 1, by omega⟩
    obtain ⟨h1, h2⟩ := ord_ok hc hn i (by omega)
    have e : (ordL X.length c X.length).getD i 0 = ord X.length c i := map_range_getD _ (by omega)
    simp only [outpostref01_Unshuffle.l0]
    rw [rd_ints, e, rd_ints, set_ints, ints_length, ints_length, ints_length, ordL_length, if_pos (by omega), if_pos (by omega), if_pos (by omega), if_pos (by omega), if_pos (by omega), w64s (by omega)]
    refine ih k (i + 1) _ (by omega) (by rw [List.length_set]; exact ho) (fun p hp => ?_) (by omega)
    by_cases e : ord X.length c i = p
    · subst e
      rw [getD_set_self (by omega), h2, if_pos (by omega)]
    · rw [getD_set_ne e, ht p hp]
      have hne : idx X.length c p ≠ i := fun h => e (idx_inj hc h1 hp (by rw [h2, h]))
      by_cases h3 : idx X.length c p < i
      · rw [if_pos h3, if_pos (by omega)]
      · rw [if_neg h3, if_neg (by omega)]
theorem RShuffle_f (X : List Nat) (rows : Int) (hN : X.length ≤ 1099511627776) : Ev (fun k => outpostref01_Shuffle.f k (ints X) rows) (shfA X rows) := by
  unfold outpostref01_Shuffle.f shfA
  by_cases h1 : rows < 1
  · simp only [if_pos h1]
    refine Ev.succ ?_
    simp only [outpostref01_Shuffle.j0, if_true]
    exact Ev.now _
  simp only [if_neg h1]
  refine Ev.succ ?_
  by_cases h2 : rows > 64
  · rw [decide_eq_true h2, if_pos h2]
    simp only [outpostref01_Shuffle.j0, if_true]
    exact Ev.now _
  obtain ⟨r, rfl⟩ : ∃ r : Nat, rows = (r : Int) := ⟨rows.toNat, by omega⟩
  rw [decide_eq_false h2, if_neg h2]
  simp only [outpostref01_Shuffle.j0, Bool.false_eq_true, if_false]
  rw [ints_length, Int.toNat_natCast, Int.toNat_natCast]
  refine Ev.bind (Order_f X.length r (by omega) (by omega) hN) ?_
  refine Ev.intro (X.length + 1) fun k hk => ?_
  rw [if_pos (by omega), if_pos (by omega), ← ints_replicate]
  by_cases h3 : X.length = 0
  · rw [List.length_eq_zero_iff] at h3
    subst h3
    obtain ⟨k, rfl⟩ : ∃ m, k = m + 1 := ⟨k - 1, by simp at hk; omega⟩
    rfl
  · obtain ⟨h4, h5⟩ := cols_pos (n := X.length) (rows := r) (by omega) (by omega)
    exact RShuffle_l0 X h4 h5 hN X.length k 0 _ (by omega) (by simp) (by simp) (by omega)
theorem RUnshuffle_f (X : List Nat) (rows : Int) (hN : X.length ≤ 1099511627776) : Ev (fun k => outpostref01_Unshuffle.f k (ints X) rows) (ushA X rows) := by
  unfold outpostref01_Unshuffle.f ushA
  by_cases h1 : rows < 1
  · simp only [if_pos h1]
    refine Ev.succ ?_
    simp only [outpostref01_Unshuffle.j0, if_true]
    exact Ev.now _
  simp only [if_neg h1]
  refine Ev.succ ?_
  by_cases h2 : rows > 64
  · rw [decide_eq_true h2, if_pos h2]
    simp only [outpostref01_Unshuffle.j0, if_true]
    exact Ev.now _
  obtain ⟨r, rfl⟩ : ∃ r : Nat, rows = (r : Int) := ⟨rows.toNat, by omega⟩
  rw [decide_eq_false h2, if_neg h2]
  simp only [outpostref01_Unshuffle.j0, Bool.false_eq_true, if_false]
  rw [ints_length, Int.toNat_natCast, Int.toNat_natCast]
  refine Ev.bind (Order_f X.length r (by omega) (by omega) hN) ?_
  refine Ev.intro (X.length + 1) fun k hk => ?_
  rw [if_pos (by omega), if_pos (by omega), ← ints_replicate]
  by_cases h3 : X.length = 0
  · rw [List.length_eq_zero_iff] at h3
    subst h3
    obtain ⟨k, rfl⟩ : ∃ m, k = m + 1 := ⟨k - 1, by simp at hk; omega⟩
    rfl
  · obtain ⟨h4, h5⟩ := cols_pos (n := X.length) (rows := r) (by omega) (by omega)
    exact RUnshuffle_l0 X h4 h5 hN X.length k 0 _ (by omega) (by simp) (fun p hp => by rw [if_neg (by omega), List.getD_eq_getElem?_getD, List.getElem?_replicate]; split <;> rfl) (by omega)
end Go.Proofs.YtgebmeojmenomaaW.Q
