/- Cyclic check sums: registers, bits and bytes; plain numbers, no program in sight. -/
set_option linter.unusedVariables false
set_option linter.unusedSimpArgs false
namespace Go.Proofs.Ytbcejldbmemaeaa.Crc
/-- One zero bit more: a register of W bits, by a polynomial whose highest term is left out. -/
def stp (W P c : Nat) : Nat := if c.testBit (W - 1) then (2 * c % 2 ^ W) ^^^ P else 2 * c % 2 ^ W
def stpN (W P : Nat) : Nat → Nat → Nat
  | 0, c => c
  | n + 1, c => stpN W P n (stp W P c)
theorem two_xor (a b : Nat) : 2 * (a ^^^ b) = (2 * a) ^^^ (2 * b) := by
  have := Nat.shiftLeft_xor_distrib (a := a) (b := b) (i := 1)
  simp only [Nat.shiftLeft_eq, Nat.pow_one] at this
  rw [Nat.mul_comm 2, this, Nat.mul_comm a, Nat.mul_comm b]
theorem mul_xor (a b n : Nat) : (a ^^^ b) * 2 ^ n = (a * 2 ^ n) ^^^ (b * 2 ^ n) := by
  have := Nat.shiftLeft_xor_distrib (a := a) (b := b) (i := n)
  simpa only [Nat.shiftLeft_eq] using this
theorem xor_mod (a b n : Nat) : (a ^^^ b) % 2 ^ n = (a % 2 ^ n) ^^^ (b % 2 ^ n) := Nat.xor_mod_two_pow
theorem stp_xor (W P a b : Nat) : stp W P (a ^^^ b) = stp W P a ^^^ stp W P b := by
  unfold stp
  rw [Nat.testBit_xor, two_xor, xor_mod]
  cases ha : a.testBit (W - 1) <;> cases hb : b.testBit (W - 1)
  · simp
  · simp [Nat.xor_assoc]
  · simp only [Bool.xor_false, if_true, if_false, Bool.false_eq_true]
    rw [Nat.xor_assoc, Nat.xor_assoc, Nat.xor_comm P]
  · simp only [Bool.xor_self, if_true, if_false, Bool.false_eq_true]
    rw [Nat.xor_assoc, Nat.xor_comm P, Nat.xor_assoc, Nat.xor_self, Nat.xor_zero]
theorem stpN_xor (W P n : Nat) : ∀ a b, stpN W P n (a ^^^ b) = stpN W P n a ^^^ stpN W P n b := by
  induction n with
  | zero => intro a b; rfl
  | succ n ih => intro a b; simp only [stpN]; rw [stp_xor, ih]
theorem stpN_add (W P n m : Nat) : ∀ c, stpN W P (n + m) c = stpN W P m (stpN W P n c) := by
  induction n with
  | zero => intro c; simp [stpN]
  | succ n ih => intro c; rw [Nat.succ_add]; simp only [stpN]; exact ih _
theorem stp_lt {W P c : Nat} (hP : P < 2 ^ W) : stp W P c < 2 ^ W := by
  have h : 2 * c % 2 ^ W < 2 ^ W := Nat.mod_lt _ (Nat.pow_pos (by omega))
  unfold stp
  split
  · exact Nat.xor_lt_two_pow h hP
  · exact h
theorem stpN_lt {W P : Nat} (hP : P < 2 ^ W) (n : Nat) : ∀ {c : Nat}, c < 2 ^ W → stpN W P n c < 2 ^ W := by
  induction n with
  | zero => intro c h; exact h
  | succ n ih => intro c h; exact ih (stp_lt hP)
theorem stp_low {W P c : Nat} (hW : 0 < W) (h : c < 2 ^ (W - 1)) : stp W P c = 2 * c := by
  unfold stp
  rw [Nat.testBit_lt_two_pow h]
  simp only [Bool.false_eq_true, if_false]
  obtain ⟨w, rfl⟩ : ∃ w, W = w + 1 := ⟨W - 1, by omega⟩
  rw [Nat.add_sub_cancel] at h
  rw [Nat.mod_eq_of_lt (by rw [Nat.pow_succ]; omega)]
theorem stpN_low {W P : Nat} (n : Nat) : ∀ {c : Nat}, n ≤ W → c < 2 ^ (W - n) → stpN W P n c = c * 2 ^ n := by
  induction n with
  | zero => intro c _ _; simp [stpN]
  | succ n ih =>
    intro c hn h
    have e : 2 ^ (W - n) = 2 * 2 ^ (W - (n + 1)) := by rw [show W - n = (W - (n + 1)) + 1 by omega, Nat.pow_succ]; omega
    have h1 : c < 2 ^ (W - 1) := Nat.lt_of_lt_of_le h (Nat.pow_le_pow_right (by omega) (by omega))
    simp only [stpN]
    rw [stp_low (by omega) h1, ih (by omega) (by omega), Nat.pow_succ, Nat.mul_comm 2 c, Nat.mul_assoc, Nat.mul_comm 2]
/-- One bit more. -/
def feed (W P c : Nat) (b : Bool) : Nat := stp W P (c ^^^ (if b then 2 ^ (W - 1) else 0))
def feeds (W P : Nat) : Nat → List Bool → Nat
  | c, [] => c
  | c, b :: t => feeds W P (feed W P c b) t
theorem feeds_append (W P : Nat) (s t : List Bool) : ∀ c, feeds W P c (s ++ t) = feeds W P (feeds W P c s) t := by
  induction s with
  | nil => intro c; rfl
  | cons b s ih => intro c; exact ih _
theorem feed_lt {W P c : Nat} {b : Bool} (hP : P < 2 ^ W) : feed W P c b < 2 ^ W := stp_lt hP
theorem feeds_lt {W P : Nat} (hP : P < 2 ^ W) (t : List Bool) : ∀ {c : Nat}, c < 2 ^ W → feeds W P c t < 2 ^ W := by
  induction t with
  | nil => intro c h; exact h
  | cons b t ih => intro c h; exact ih (feed_lt hP)
/-- A row of bits as a number, the first one highest. -/
def val : List Bool → Nat
  | [] => 0
  | b :: t => (if b then 2 ^ t.length else 0) + val t
theorem val_lt (t : List Bool) : val t < 2 ^ t.length := by
  induction t with
  | nil => simp [val]
  | cons b t ih =>
    simp only [val, List.length_cons, Nat.pow_succ]
    split <;> omega
theorem add_xor {a b n : Nat} (ha : a % 2 ^ n = 0) (hb : b < 2 ^ n) : a + b = a ^^^ b := by
  obtain ⟨q, rfl⟩ := Nat.dvd_of_mod_eq_zero ha
  rw [Nat.mul_comm]
  refine Nat.eq_of_testBit_eq fun i => ?_
  rw [Nat.testBit_xor, Nat.mul_comm q, Nat.testBit_two_pow_mul_add q hb, Nat.testBit_two_pow_mul]
  by_cases h : i < n
  · simp [h, show ¬ n ≤ i by omega]
  · have h2 : b < 2 ^ i := Nat.lt_of_lt_of_le hb (Nat.pow_le_pow_right (by omega) (by omega))
    simp [h, show n ≤ i by omega, Nat.testBit_lt_two_pow h2]
/-- Bits that are fed are bits that lie in the register from the beginning. -/
theorem feeds_place (W P : Nat) (t : List Bool) : ∀ c, t.length ≤ W → feeds W P c t = stpN W P t.length (c ^^^ val t * 2 ^ (W - t.length)) := by
  induction t with
  | nil => intro c _; simp [feeds, val, stpN]
  | cons b t ih =>
    intro c hl
    rw [List.length_cons] at hl
    have hv := val_lt t
    have hm : val t * 2 ^ (W - (t.length + 1)) < 2 ^ (W - 1) := by
      have e : 2 ^ (W - 1) = 2 ^ t.length * 2 ^ (W - (t.length + 1)) := by rw [← Nat.pow_add]; congr 1; omega
      rw [e]
      exact Nat.mul_lt_mul_of_pos_right hv (Nat.pow_pos (by omega))
    have e1 : val (b :: t) * 2 ^ (W - (t.length + 1)) = (if b then 2 ^ (W - 1) else 0) ^^^ (val t * 2 ^ (W - (t.length + 1))) := by
      rw [val, Nat.add_mul]
      have e2 : (if b = true then 2 ^ t.length else 0) * 2 ^ (W - (t.length + 1)) = (if b then 2 ^ (W - 1) else 0) := by
        cases b
        · simp
        · simp only [if_true]; rw [← Nat.pow_add]; congr 1; omega
      rw [e2]
      refine add_xor (n := W - 1) ?_ hm
      cases b <;> simp
    simp only [feeds, List.length_cons, stpN]
    rw [e1, ih _ (by omega), feed, ← Nat.xor_assoc, stp_xor W P (c ^^^ _), stp_low (by omega) hm, ← Nat.mul_assoc, Nat.mul_comm 2, Nat.mul_assoc, show 2 * 2 ^ (W - (t.length + 1)) = 2 ^ (W - t.length) by rw [← Nat.pow_succ']; congr 1; omega]
/-- The same register, standing higher. -/
theorem stp_up {W P c K : Nat} (hW : 0 < W) (hc : c < 2 ^ W) : stp (W + K) (P * 2 ^ K) (c * 2 ^ K) = stp W P c * 2 ^ K := by
  have e : (c * 2 ^ K).testBit (W + K - 1) = c.testBit (W - 1) := by
    rw [Nat.mul_comm, Nat.testBit_two_pow_mul, show W + K - 1 - K = W - 1 by omega]
    simp [show K ≤ W + K - 1 by omega]
  have e2 : 2 * (c * 2 ^ K) % 2 ^ (W + K) = (2 * c % 2 ^ W) * 2 ^ K := by
    rw [Nat.pow_add, ← Nat.mul_assoc, Nat.mul_mod_mul_right]
  unfold stp
  rw [e, e2]
  split
  · rw [mul_xor]
  · rfl
theorem stpN_up {W P K : Nat} (hW : 0 < W) (hP : P < 2 ^ W) (n : Nat) : ∀ {c : Nat}, c < 2 ^ W → stpN (W + K) (P * 2 ^ K) n (c * 2 ^ K) = stpN W P n c * 2 ^ K := by
  induction n with
  | zero => intro c _; rfl
  | succ n ih => intro c h; simp only [stpN]; rw [stp_up hW h, ih (stp_lt hP)]
/-- The n lowest bits of a number, the highest first. -/
def hib (x : Nat) : Nat → List Bool
  | 0 => []
  | n + 1 => x.testBit n :: hib x n
/-- The n lowest bits, the lowest first. -/
def lob : Nat → Nat → List Bool
  | _, 0 => []
  | x, n + 1 => x.testBit 0 :: lob (x / 2) n
theorem hib_length (x n : Nat) : (hib x n).length = n := by induction n with
  | zero => rfl
  | succ n ih => simp [hib, ih]
theorem lob_length (n : Nat) : ∀ x, (lob x n).length = n := by induction n with
  | zero => intro x; rfl
  | succ n ih => intro x; simp [lob, ih]
theorem val_hib (x n : Nat) : val (hib x n) = x % 2 ^ n := by
  induction n with
  | zero => simp [hib, val, Nat.mod_one]
  | succ n ih =>
    rw [hib, val, ih, hib_length, Nat.pow_succ, Nat.mod_mul, Nat.testBit_eq_decide_div_mod_eq]
    rcases Nat.mod_two_eq_zero_or_one (x / 2 ^ n) with h | h <;> simp [h] <;> omega
/-- The n lowest bits the other way round. -/
def rev (x n : Nat) : Nat := val (lob x n)
theorem val_testBit (t : List Bool) : ∀ i, (val t).testBit i = (decide (i < t.length) && t.getD (t.length - 1 - i) false) := by
  induction t with
  | nil => intro i; simp [val]
  | cons b t ih =>
    intro i
    have e : val (b :: t) = (if b then 2 ^ t.length else 0) ^^^ val t := by
      rw [val]
      refine add_xor (n := t.length) ?_ (val_lt t)
      cases b <;> simp
    rw [e, Nat.testBit_xor, ih]
    by_cases h : i < t.length
    · have h2 : (if b = true then 2 ^ t.length else 0).testBit i = false := by
        cases b
        · simp
        · simp only [if_true]; rw [Nat.testBit_two_pow]; simp; omega
      rw [h2]
      simp only [h, show i < (b :: t).length by simp; omega, decide_true, Bool.true_and, Bool.false_xor]
      rw [show (b :: t).length - 1 - i = (t.length - 1 - i) + 1 by simp; omega, List.getD_cons_succ]
    · by_cases h1 : i = t.length
      · subst h1
        cases b <;> simp [Nat.testBit_two_pow]
      · have h2 : (if b = true then 2 ^ t.length else 0).testBit i = false := by
          cases b
          · simp
          · simp only [if_true]; rw [Nat.testBit_two_pow]; simp; omega
        rw [h2]
        simp [h, show ¬ i < t.length + 1 by omega]
theorem lob_getD (n : Nat) : ∀ x j, (lob x n).getD j false = (decide (j < n) && x.testBit j) := by
  induction n with
  | zero => intro x j; simp [lob]
  | succ n ih =>
    intro x j
    cases j with
    | zero => simp [lob]
    | succ j => simp only [lob, List.getD_cons_succ]; rw [ih]; simp [Nat.testBit_succ]
theorem rev_testBit (x n i : Nat) : (rev x n).testBit i = (decide (i < n) && x.testBit (n - 1 - i)) := by
  unfold rev
  rw [val_testBit, lob_length, lob_getD]
  by_cases h : i < n
  · simp [h]; intro h2; omega
  · simp [h]
theorem rev_lt (x n : Nat) : rev x n < 2 ^ n := by have := val_lt (lob x n); rwa [lob_length] at this
theorem rev_up (x W K n : Nat) (h : W + K = n) : rev x n / 2 ^ K = rev x W := by
  refine Nat.eq_of_testBit_eq fun i => ?_
  rw [Nat.testBit_div_two_pow, rev_testBit, rev_testBit]
  by_cases hi : i < W
  · rw [show n - 1 - (i + K) = W - 1 - i by omega]
    simp [hi, show i + K < n by omega]
  · simp [hi, show ¬ i + K < n by omega]
/-- What a register tells, before the last number is added. -/
def turn (R : Bool) (W x : Nat) : Nat := if R then rev x W else x
theorem turn_lt {R : Bool} {W x : Nat} (h : x < 2 ^ W) : turn R W x < 2 ^ W := by
  unfold turn
  split
  · exact rev_lt x W
  · exact h
/-- One round of a reversal by halves. -/
def swp (m s x : Nat) : Nat := ((x / 2 ^ s) &&& m) ||| ((x &&& m) * 2 ^ s % 4294967296)
def rbs (x : Nat) : Nat := (swp 16711935 8 x / 2 ^ 16) ||| (swp 16711935 8 x * 2 ^ 16 % 4294967296)
theorem swp_testBit (m s x i : Nat) : (swp m s x).testBit i = (x.testBit (i + s) && m.testBit i || (decide (i < 32) && (decide (s ≤ i) && (x.testBit (i - s) && m.testBit (i - s))))) := by
  unfold swp
  rw [Nat.testBit_or, Nat.testBit_and, Nat.testBit_div_two_pow, show (4294967296 : Nat) = 2 ^ 32 from rfl, Nat.testBit_mod_two_pow, Nat.mul_comm, Nat.testBit_two_pow_mul, Nat.testBit_and]
theorem rbs_testBit (x i : Nat) : (rbs x).testBit i = ((swp 16711935 8 x).testBit (i + 16) || (decide (i < 32) && (decide (16 ≤ i) && (swp 16711935 8 x).testBit (i - 16)))) := by
  unfold rbs
  rw [Nat.testBit_or, Nat.testBit_div_two_pow, show (4294967296 : Nat) = 2 ^ 32 from rfl, Nat.testBit_mod_two_pow, Nat.mul_comm, Nat.testBit_two_pow_mul]
theorem rev32 (x : Nat) (hx : x < 4294967296) : rbs (swp 252645135 4 (swp 858993459 2 (swp 1431655765 1 x))) = rev x 32 := by
  refine Nat.eq_of_testBit_eq fun i => ?_
  have hhi : ∀ j, 32 ≤ j → x.testBit j = false := fun j hj => Nat.testBit_lt_two_pow (Nat.lt_of_lt_of_le hx (show 2 ^ 32 ≤ 2 ^ j from Nat.pow_le_pow_right (by omega) hj))
  rw [rev_testBit]
  by_cases h : i < 32
  · have key : ∀ j : Fin 32, (rbs (swp 252645135 4 (swp 858993459 2 (swp 1431655765 1 x)))).testBit j.1 = x.testBit (31 - j.1) := by
      intro ⟨j, hj⟩
      match j, hj with
      | 0, _ => simp [-Nat.testBit_zero, rbs_testBit, swp_testBit, Nat.testBit_eq_decide_div_mod_eq (x := 16711935), Nat.testBit_eq_decide_div_mod_eq (x := 252645135), Nat.testBit_eq_decide_div_mod_eq (x := 858993459), Nat.testBit_eq_decide_div_mod_eq (x := 1431655765), hhi]
      | 1, _ => simp [-Nat.testBit_zero, rbs_testBit, swp_testBit, Nat.testBit_eq_decide_div_mod_eq (x := 16711935), Nat.testBit_eq_decide_div_mod_eq (x := 252645135), Nat.testBit_eq_decide_div_mod_eq (x := 858993459), Nat.testBit_eq_decide_div_mod_eq (x := 1431655765), hhi]
      | 2, _ => simp [-Nat.testBit_zero, rbs_testBit, swp_testBit, Nat.testBit_eq_decide_div_mod_eq (x := 16711935), Nat.testBit_eq_decide_div_mod_eq (x := 252645135), Nat.testBit_eq_decide_div_mod_eq (x := 858993459), Nat.testBit_eq_decide_div_mod_eq (x := 1431655765), hhi]
      | 3, _ => simp [-Nat.testBit_zero, rbs_testBit, swp_testBit, Nat.testBit_eq_decide_div_mod_eq (x := 16711935), Nat.testBit_eq_decide_div_mod_eq (x := 252645135), Nat.testBit_eq_decide_div_mod_eq (x := 858993459), Nat.testBit_eq_decide_div_mod_eq (x := 1431655765), hhi]
      | 4, _ => simp [-Nat.testBit_zero, rbs_testBit, swp_testBit, Nat.testBit_eq_decide_div_mod_eq (x := 16711935), Nat.testBit_eq_decide_div_mod_eq (x := 252645135), Nat.testBit_eq_decide_div_mod_eq (x := 858993459), Nat.testBit_eq_decide_div_mod_eq (x := 1431655765), hhi]
      | 5, _ => simp [-Nat.testBit_zero, rbs_testBit, swp_testBit, Nat.testBit_eq_decide_div_mod_eq (x := 16711935), Nat.testBit_eq_decide_div_mod_eq (x := 252645135), Nat.testBit_eq_decide_div_mod_eq (x := 858993459), Nat.testBit_eq_decide_div_mod_eq (x := 1431655765), hhi]
      | 6, _ => simp [-Nat.testBit_zero, rbs_testBit, swp_testBit, Nat.testBit_eq_decide_div_mod_eq (x := 16711935), Nat.testBit_eq_decide_div_mod_eq (x := 252645135), Nat.testBit_eq_decide_div_mod_eq (x := 858993459), Nat.testBit_eq_decide_div_mod_eq (x := 1431655765), hhi]
      | 7, _ => simp [-Nat.testBit_zero, rbs_testBit, swp_testBit, Nat.testBit_eq_decide_div_mod_eq (x := 16711935), Nat.testBit_eq_decide_div_mod_eq (x := 252645135), Nat.testBit_eq_decide_div_mod_eq (x := 858993459), Nat.testBit_eq_decide_div_mod_eq (x := 1431655765), hhi]
      | 8, _ => simp [-Nat.testBit_zero, rbs_testBit, swp_testBit, Nat.testBit_eq_decide_div_mod_eq (x := 16711935), Nat.testBit_eq_decide_div_mod_eq (x := 252645135), Nat.testBit_eq_decide_div_mod_eq (x := 858993459), Nat.testBit_eq_decide_div_mod_eq (x := 1431655765), hhi]
      | 9, _ => simp [-Nat.testBit_zero, rbs_testBit, swp_testBit, Nat.testBit_eq_decide_div_mod_eq (x := 16711935), Nat.testBit_eq_decide_div_mod_eq (x := 252645135), Nat.testBit_eq_decide_div_mod_eq (x := 858993459), Nat.testBit_eq_decide_div_mod_eq (x := 1431655765), hhi]
      | 10, _ => simp [-Nat.testBit_zero, rbs_testBit, swp_testBit, Nat.testBit_eq_decide_div_mod_eq (x := 16711935), Nat.testBit_eq_decide_div_mod_eq (x := 252645135), Nat.testBit_eq_decide_div_mod_eq (x := 858993459), Nat.testBit_eq_decide_div_mod_eq (x := 1431655765), hhi]
      | 11, _ => simp [-Nat.testBit_zero, rbs_testBit, swp_testBit, Nat.testBit_eq_decide_div_mod_eq (x := 16711935), Nat.testBit_eq_decide_div_mod_eq (x := 252645135), Nat.testBit_eq_decide_div_mod_eq (x := 858993459), Nat.testBit_eq_decide_div_mod_eq (x := 1431655765), hhi]
      | 12, _ => simp [-Nat.testBit_zero, rbs_testBit, swp_testBit, Nat.testBit_eq_decide_div_mod_eq (x := 16711935), Nat.testBit_eq_decide_div_mod_eq (x := 252645135), Nat.testBit_eq_decide_div_mod_eq (x := 858993459), Nat.testBit_eq_decide_div_mod_eq (x := 1431655765), hhi]
      | 13, _ => simp [-Nat.testBit_zero, rbs_testBit, swp_testBit, Nat.testBit_eq_decide_div_mod_eq (x := 16711935), Nat.testBit_eq_decide_div_mod_eq (x := 252645135), Nat.testBit_eq_decide_div_mod_eq (x := 858993459), Nat.testBit_eq_decide_div_mod_eq (x := 1431655765), hhi]
      | 14, _ => simp [-Nat.testBit_zero, rbs_testBit, swp_testBit, Nat.testBit_eq_decide_div_mod_eq (x := 16711935), Nat.testBit_eq_decide_div_mod_eq (x := 252645135), Nat.testBit_eq_decide_div_mod_eq (x := 858993459), Nat.testBit_eq_decide_div_mod_eq (x := 1431655765), hhi]
      | 15, _ => simp [-Nat.testBit_zero, rbs_testBit, swp_testBit, Nat.testBit_eq_decide_div_mod_eq (x := 16711935), Nat.testBit_eq_decide_div_mod_eq (x := 252645135), Nat.testBit_eq_decide_div_mod_eq (x := 858993459), Nat.testBit_eq_decide_div_mod_eq (x := 1431655765), hhi]
      | 16, _ => simp [-Nat.testBit_zero, rbs_testBit, swp_testBit, Nat.testBit_eq_decide_div_mod_eq (x := 16711935), Nat.testBit_eq_decide_div_mod_eq (x := 252645135), Nat.testBit_eq_decide_div_mod_eq (x := 858993459), Nat.testBit_eq_decide_div_mod_eq (x := 1431655765), hhi]
      | 17, _ => simp [-Nat.testBit_zero, rbs_testBit, swp_testBit, Nat.testBit_eq_decide_div_mod_eq (x := 16711935), Nat.testBit_eq_decide_div_mod_eq (x := 252645135), Nat.testBit_eq_decide_div_mod_eq (x := 858993459), Nat.testBit_eq_decide_div_mod_eq (x := 1431655765), hhi]
      | 18, _ => simp [-Nat.testBit_zero, rbs_testBit, swp_testBit, Nat.testBit_eq_decide_div_mod_eq (x := 16711935), Nat.testBit_eq_decide_div_mod_eq (x := 252645135), Nat.testBit_eq_decide_div_mod_eq (x := 858993459), Nat.testBit_eq_decide_div_mod_eq (x := 1431655765), hhi]
      | 19, _ => simp [-Nat.testBit_zero, rbs_testBit, swp_testBit, Nat.testBit_eq_decide_div_mod_eq (x := 16711935), Nat.testBit_eq_decide_div_mod_eq (x := 252645135), Nat.testBit_eq_decide_div_mod_eq (x := 858993459), Nat.testBit_eq_decide_div_mod_eq (x := 1431655765), hhi]
      | 20, _ => simp [-Nat.testBit_zero, rbs_testBit, swp_testBit, Nat.testBit_eq_decide_div_mod_eq (x := 16711935), Nat.testBit_eq_decide_div_mod_eq (x := 252645135), Nat.testBit_eq_decide_div_mod_eq (x := 858993459), Nat.testBit_eq_decide_div_mod_eq (x := 1431655765), hhi]
      | 21, _ => simp [-Nat.testBit_zero, rbs_testBit, swp_testBit, Nat.testBit_eq_decide_div_mod_eq (x := 16711935), Nat.testBit_eq_decide_div_mod_eq (x := 252645135), Nat.testBit_eq_decide_div_mod_eq (x := 858993459), Nat.testBit_eq_decide_div_mod_eq (x := 1431655765), hhi]
      | 22, _ => simp [-Nat.testBit_zero, rbs_testBit, swp_testBit, Nat.testBit_eq_decide_div_mod_eq (x := 16711935), Nat.testBit_eq_decide_div_mod_eq (x := 252645135), Nat.testBit_eq_decide_div_mod_eq (x := 858993459), Nat.testBit_eq_decide_div_mod_eq (x := 1431655765), hhi]
      | 23, _ => simp [-Nat.testBit_zero, rbs_testBit, swp_testBit, Nat.testBit_eq_decide_div_mod_eq (x := 16711935), Nat.testBit_eq_decide_div_mod_eq (x := 252645135), Nat.testBit_eq_decide_div_mod_eq (x := 858993459), Nat.testBit_eq_decide_div_mod_eq (x := 1431655765), hhi]
      | 24, _ => simp [-Nat.testBit_zero, rbs_testBit, swp_testBit, Nat.testBit_eq_decide_div_mod_eq (x := 16711935), Nat.testBit_eq_decide_div_mod_eq (x := 252645135), Nat.testBit_eq_decide_div_mod_eq (x := 858993459), Nat.testBit_eq_decide_div_mod_eq (x := 1431655765), hhi]
      | 25, _ => simp [-Nat.testBit_zero, rbs_testBit, swp_testBit, Nat.testBit_eq_decide_div_mod_eq (x := 16711935), Nat.testBit_eq_decide_div_mod_eq (x := 252645135), Nat.testBit_eq_decide_div_mod_eq (x := 858993459), Nat.testBit_eq_decide_div_mod_eq (x := 1431655765), hhi]
      | 26, _ => simp [-Nat.testBit_zero, rbs_testBit, swp_testBit, Nat.testBit_eq_decide_div_mod_eq (x := 16711935), Nat.testBit_eq_decide_div_mod_eq (x := 252645135), Nat.testBit_eq_decide_div_mod_eq (x := 858993459), Nat.testBit_eq_decide_div_mod_eq (x := 1431655765), hhi]
      | 27, _ => simp [-Nat.testBit_zero, rbs_testBit, swp_testBit, Nat.testBit_eq_decide_div_mod_eq (x := 16711935), Nat.testBit_eq_decide_div_mod_eq (x := 252645135), Nat.testBit_eq_decide_div_mod_eq (x := 858993459), Nat.testBit_eq_decide_div_mod_eq (x := 1431655765), hhi]
      | 28, _ => simp [-Nat.testBit_zero, rbs_testBit, swp_testBit, Nat.testBit_eq_decide_div_mod_eq (x := 16711935), Nat.testBit_eq_decide_div_mod_eq (x := 252645135), Nat.testBit_eq_decide_div_mod_eq (x := 858993459), Nat.testBit_eq_decide_div_mod_eq (x := 1431655765), hhi]
      | 29, _ => simp [-Nat.testBit_zero, rbs_testBit, swp_testBit, Nat.testBit_eq_decide_div_mod_eq (x := 16711935), Nat.testBit_eq_decide_div_mod_eq (x := 252645135), Nat.testBit_eq_decide_div_mod_eq (x := 858993459), Nat.testBit_eq_decide_div_mod_eq (x := 1431655765), hhi]
      | 30, _ => simp [-Nat.testBit_zero, rbs_testBit, swp_testBit, Nat.testBit_eq_decide_div_mod_eq (x := 16711935), Nat.testBit_eq_decide_div_mod_eq (x := 252645135), Nat.testBit_eq_decide_div_mod_eq (x := 858993459), Nat.testBit_eq_decide_div_mod_eq (x := 1431655765), hhi]
      | 31, _ => simp [-Nat.testBit_zero, rbs_testBit, swp_testBit, Nat.testBit_eq_decide_div_mod_eq (x := 16711935), Nat.testBit_eq_decide_div_mod_eq (x := 252645135), Nat.testBit_eq_decide_div_mod_eq (x := 858993459), Nat.testBit_eq_decide_div_mod_eq (x := 1431655765), hhi]
      | j + 32, hj => omega
    simpa [h] using key ⟨i, h⟩
  · simp only [h, decide_false, Bool.false_and]
    have e : ∀ m s y j, 32 ≤ j → m.testBit j = false → (swp m s y).testBit j = false := by
      intro m s y j hj hm
      rw [swp_testBit, hm]
      simp [show ¬ j < 32 by omega]
    rw [rbs_testBit, e _ _ _ _ (by omega) (Nat.testBit_lt_two_pow (Nat.lt_of_lt_of_le (show 16711935 < 2 ^ 32 by decide) (Nat.pow_le_pow_right (by omega) (by omega))))]
    simp [h]
/-- A byte by a register of W bits. -/
theorem feeds_byte {W P c x : Nat} (hW : 8 ≤ W) (hx : x < 256) : feeds W P c (hib x 8) = stpN W P 8 (c ^^^ x * 2 ^ (W - 8)) := by
  rw [feeds_place W P _ c (by rw [hib_length]; exact hW), val_hib, hib_length, Nat.mod_eq_of_lt (by simpa using hx)]
theorem feeds_byte_up {W P c x K : Nat} (hW : 8 ≤ W) (hx : x < 256) (hP : P < 2 ^ W) (hc : c < 2 ^ W) :
    stpN (W + K) (P * 2 ^ K) 8 (c * 2 ^ K ^^^ x * 2 ^ (W + K - 8)) = feeds W P c (hib x 8) * 2 ^ K := by
  have e : x * 2 ^ (W + K - 8) = x * 2 ^ (W - 8) * 2 ^ K := by rw [Nat.mul_assoc, ← Nat.pow_add]; congr 2; omega
  have hx2 : x * 2 ^ (W - 8) < 2 ^ W := by
    have e2 : 2 ^ W = 256 * 2 ^ (W - 8) := by rw [show (256 : Nat) = 2 ^ 8 from rfl, ← Nat.pow_add]; congr 1; omega
    rw [e2]
    exact Nat.mul_lt_mul_of_pos_right hx (Nat.pow_pos (by omega))
  rw [e, ← mul_xor, stpN_up (by omega) hP 8 (Nat.xor_lt_two_pow hc hx2), feeds_byte hW hx]
/-- A byte's bits, in the order in which they are taken. -/
def bitsOf (R : Bool) (x : Nat) : List Bool := if R then lob x 8 else hib x 8
/-- The register behind bytes. -/
def regs (R : Bool) (W P : Nat) : Nat → List Nat → Nat
  | c, [] => c
  | c, x :: B => regs R W P (feeds W P c (bitsOf R x)) B
/-- The check sum. -/
def crc (R : Bool) (W P I O : Nat) (B : List Nat) : Nat := turn R W (regs R W P I B) ^^^ O
/-- A spec that is one. -/
def okN (W P I O : Nat) : Prop := (W = 8 ∨ W = 16 ∨ W = 24 ∨ W = 32) ∧ P < 2 ^ W ∧ I < 2 ^ W ∧ O < 2 ^ W ∧ P % 2 = 1
theorem regs_lt {R : Bool} {W P : Nat} (hP : P < 2 ^ W) (B : List Nat) : ∀ {c : Nat}, c < 2 ^ W → regs R W P c B < 2 ^ W := by
  induction B with
  | nil => intro c h; exact h
  | cons x B ih => intro c h; exact ih (feeds_lt hP _ h)
theorem crc_lt {R : Bool} {W P I O : Nat} (h : okN W P I O) (B : List Nat) : crc R W P I O B < 2 ^ W :=
  Nat.xor_lt_two_pow (turn_lt (regs_lt h.2.1 B h.2.2.1)) h.2.2.2.1
/-- A byte that is turned round gives its bits in the other order. -/
theorem val_lob (x n : Nat) : val (lob x n) = rev x n := rfl
theorem hib_rev (n : Nat) : ∀ x, hib (rev x n) n = lob x n := by
  intro x
  refine List.ext_getElem (by rw [hib_length, lob_length]) fun i h1 h2 => ?_
  have e1 : ∀ (m y j : Nat), j < m → (hib y m)[j]? = some (y.testBit (m - 1 - j)) := by
    intro m
    induction m with
    | zero => intro y j hj; omega
    | succ m ih =>
      intro y j hj
      cases j with
      | zero => simp [hib]
      | succ j =>
        simp only [hib, List.getElem?_cons_succ]
        rw [ih y j (by omega)]
        congr 2
        omega
  have hn : i < n := by rw [hib_length] at h1; exact h1
  have a := e1 n (rev x n) i hn
  rw [List.getElem?_eq_getElem h1] at a
  injection a with a
  have b := lob_getD n x i
  rw [List.getD_eq_getElem?_getD, List.getElem?_eq_getElem h2] at b
  simp only [Option.getD_some] at b
  rw [a, b, rev_testBit]
  simp [hn, show n - 1 - i < n by omega, show n - 1 - (n - 1 - i) = i by omega]
/-- The byte as the code takes it in. -/
def takeN (R : Bool) (x : Nat) : Nat := if R then rev x 8 else x
theorem takeN_lt {R : Bool} {x : Nat} (h : x < 256) : takeN R x < 256 := by
  unfold takeN
  split
  · exact rev_lt x 8
  · exact h
theorem bitsOf_take (R : Bool) (x : Nat) : bitsOf R x = hib (takeN R x) 8 := by
  unfold bitsOf takeN
  cases R
  · simp
  · simp only [if_true]; exact (hib_rev 8 x).symm
theorem step_byte {R : Bool} {W K P y x : Nat} (hK : W + K = 32) (hW : 8 ≤ W) (hx : x < 256) (hP : P < 2 ^ W) (hy : y < 2 ^ W) :
    stpN 32 (P * 2 ^ K) 8 (y * 2 ^ K ^^^ takeN R x * 2 ^ 24) = feeds W P y (bitsOf R x) * 2 ^ K := by
  have h := feeds_byte_up (W := W) (P := P) (c := y) (x := takeN R x) (K := K) hW (takeN_lt hx) hP hy
  rw [hK] at h
  rw [bitsOf_take]
  exact h
theorem up_lt {W K c : Nat} (hK : W + K = 32) (h : c < 2 ^ W) : c * 2 ^ K < 4294967296 := by
  have : c * 2 ^ K < 2 ^ W * 2 ^ K := Nat.mul_lt_mul_of_pos_right h (Nat.pow_pos (by omega))
  rwa [← Nat.pow_add, hK] at this
end Go.Proofs.Ytbcejldbmemaeaa.Crc
