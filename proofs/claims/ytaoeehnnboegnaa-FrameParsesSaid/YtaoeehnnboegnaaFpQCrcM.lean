/- Check sums: adding up, one byte; plain numbers, no program in sight. -/
import Derived.Test.YtaoeehnnboegnaaFpQCrc
set_option linter.unusedVariables false
set_option linter.unusedSimpArgs false
namespace Go.Proofs.Ytaoeehnnboegnaa.Crc
theorem rev_xor (x y n : Nat) : rev (x ^^^ y) n = rev x n ^^^ rev y n := by
  refine Nat.eq_of_testBit_eq fun i => ?_
  rw [rev_testBit, Nat.testBit_xor, Nat.testBit_xor, rev_testBit, rev_testBit]
  by_cases h : i < n <;> simp [h]
theorem takeN_xor (R : Bool) (x y : Nat) : takeN R (x ^^^ y) = takeN R x ^^^ takeN R y := by
  unfold takeN
  cases R
  · simp
  · simp only [if_true]; exact rev_xor x y 8
theorem turn_xor (R : Bool) (W x y : Nat) : turn R W (x ^^^ y) = turn R W x ^^^ turn R W y := by
  unfold turn
  cases R
  · simp
  · simp only [if_true]; exact rev_xor x y W
/-- A register behind a byte. -/
def bst (R : Bool) (W P c x : Nat) : Nat := stpN W P 8 (c ^^^ takeN R x * 2 ^ (W - 8))
theorem feeds_bst {R : Bool} {W P c x : Nat} (hW : 8 ≤ W) (hx : x < 256) : feeds W P c (bitsOf R x) = bst R W P c x := by
  rw [bitsOf_take, feeds_byte hW (takeN_lt hx)]
  rfl
theorem xor4 (a b c d : Nat) : (a ^^^ b) ^^^ (c ^^^ d) = (a ^^^ c) ^^^ (b ^^^ d) := by
  rw [Nat.xor_assoc, Nat.xor_assoc, ← Nat.xor_assoc b c d, Nat.xor_comm b c, Nat.xor_assoc c b d]
theorem bst_xor (R : Bool) (W P c d x y : Nat) : bst R W P (c ^^^ d) (x ^^^ y) = bst R W P c x ^^^ bst R W P d y := by
  unfold bst
  rw [takeN_xor, mul_xor, xor4, stpN_xor]
/-- Two strings added up, byte by byte. -/
def addB : List Nat → List Nat → List Nat
  | x :: A, y :: B => (x ^^^ y) :: addB A B
  | _, _ => []
theorem addB_length : ∀ (A B : List Nat), A.length = B.length → (addB A B).length = A.length
  | [], [], _ => rfl
  | x :: A, y :: B, h => by simp only [addB, List.length_cons]; rw [addB_length A B (by simpa using h)]
  | [], y :: B, h => by simp at h
  | x :: A, [], h => by simp at h
theorem addB_lt : ∀ (A B : List Nat), (∀ x ∈ A, x < 256) → (∀ x ∈ B, x < 256) → ∀ x ∈ addB A B, x < 256
  | [], _, _, _, x, hx => by simp [addB] at hx
  | a :: A, [], _, _, x, hx => by simp [addB] at hx
  | a :: A, b :: B, hA, hB, x, hx => by
    rcases List.mem_cons.1 hx with rfl | hx
    · exact Nat.xor_lt_two_pow (n := 8) (hA a List.mem_cons_self) (hB b List.mem_cons_self)
    · exact addB_lt A B (fun y hy => hA y (List.mem_cons_of_mem _ hy)) (fun y hy => hB y (List.mem_cons_of_mem _ hy)) x hx
theorem regs_cons {R : Bool} {W P c x : Nat} {B : List Nat} (hW : 8 ≤ W) (hx : x < 256) : regs R W P c (x :: B) = regs R W P (bst R W P c x) B := by
  rw [regs, feeds_bst hW hx]
theorem regs_add {R : Bool} {W P : Nat} (hW : 8 ≤ W) : ∀ (A B : List Nat) (c d : Nat), A.length = B.length → (∀ x ∈ A, x < 256) → (∀ x ∈ B, x < 256) → regs R W P (c ^^^ d) (addB A B) = regs R W P c A ^^^ regs R W P d B
  | [], [], c, d, _, _, _ => rfl
  | a :: A, b :: B, c, d, h, hA, hB => by
    have ha := hA a List.mem_cons_self
    have hb := hB b List.mem_cons_self
    have hx : a ^^^ b < 256 := Nat.xor_lt_two_pow (n := 8) ha hb
    simp only [addB]
    rw [regs_cons hW hx, regs_cons hW ha, regs_cons hW hb, bst_xor]
    exact regs_add hW A B _ _ (by simpa using h) (fun y hy => hA y (List.mem_cons_of_mem _ hy)) (fun y hy => hB y (List.mem_cons_of_mem _ hy))
  | [], y :: B, _, _, h, _, _ => by simp at h
  | x :: A, [], _, _, h, _, _ => by simp at h
theorem crc_three {R : Bool} {W P I O : Nat} (hW : 8 ≤ W) {A B C : List Nat} (h1 : A.length = B.length) (h2 : B.length = C.length) (hA : ∀ x ∈ A, x < 256) (hB : ∀ x ∈ B, x < 256) (hC : ∀ x ∈ C, x < 256) :
    crc R W P I O (addB (addB A B) C) = crc R W P I O A ^^^ crc R W P I O B ^^^ crc R W P I O C := by
  have e : I = (I ^^^ I) ^^^ I := by rw [Nat.xor_self, Nat.zero_xor]
  have r : regs R W P I (addB (addB A B) C) = regs R W P I A ^^^ regs R W P I B ^^^ regs R W P I C := by
    have l : (addB A B).length = C.length := by rw [addB_length A B h1, h1, h2]
    have := regs_add (R := R) (P := P) hW (addB A B) C (I ^^^ I) I l (addB_lt A B hA hB) hC
    rw [← e] at this
    rw [this, regs_add hW A B I I h1 hA hB]
  unfold crc
  rw [r, turn_xor, turn_xor]
  generalize turn R W (regs R W P I A) = a
  generalize turn R W (regs R W P I B) = b
  generalize turn R W (regs R W P I C) = c
  rw [xor4 a O b O, Nat.xor_self, Nat.xor_zero, Nat.xor_assoc (a ^^^ b) c O]
/-! One step of a register, and many, forget nothing. -/
theorem xor_zero_iff {a b : Nat} (h : a ^^^ b = 0) : a = b := by
  have : (a ^^^ b) ^^^ b = b := by rw [h, Nat.zero_xor]
  rwa [Nat.xor_assoc, Nat.xor_self, Nat.xor_zero] at this
theorem stp_zero {W P c : Nat} (hW : 0 < W) (hP : P % 2 = 1) (hc : c < 2 ^ W) (h : stp W P c = 0) : c = 0 := by
  obtain ⟨w, rfl⟩ : ∃ w, W = w + 1 := ⟨W - 1, by omega⟩
  unfold stp at h
  rw [Nat.add_sub_cancel] at h
  have hpow : 2 ^ (w + 1) = 2 * 2 ^ w := by rw [Nat.pow_succ]; omega
  split at h
  · have e := xor_zero_iff h
    rw [hpow, Nat.mul_mod_mul_left] at e
    omega
  · rename_i hb
    have hlt : c < 2 ^ w := by
      rw [hpow] at hc
      rcases Nat.lt_or_ge c (2 ^ w) with h1 | h1
      · exact h1
      · exfalso
        apply hb
        rw [Nat.testBit_eq_decide_div_mod_eq]
        have h2 : c / 2 ^ w = 1 := by
          have a1 : 1 ≤ c / 2 ^ w := (Nat.le_div_iff_mul_le (Nat.pow_pos (by omega))).2 (by omega)
          have a2 : c / 2 ^ w < 2 := (Nat.div_lt_iff_lt_mul (Nat.pow_pos (by omega))).2 (by omega)
          omega
        rw [h2]
        rfl
    rw [Nat.mod_eq_of_lt (by rw [hpow]; omega)] at h
    omega
theorem stpN_zero {W P : Nat} (hW : 0 < W) (hP : P % 2 = 1) (hP2 : P < 2 ^ W) (n : Nat) : ∀ {c : Nat}, c < 2 ^ W → stpN W P n c = 0 → c = 0 := by
  induction n with
  | zero => intro c _ h; exact h
  | succ n ih => intro c hc h; exact stp_zero hW hP hc (ih (stp_lt hP2) h)
theorem bst_lt {R : Bool} {W P c x : Nat} (hW : 8 ≤ W) (hP : P < 2 ^ W) (hx : x < 256) (hc : c < 2 ^ W) : bst R W P c x < 2 ^ W := by
  rw [← feeds_bst hW hx]
  exact feeds_lt hP _ hc
theorem place_lt {W x : Nat} (hW : 8 ≤ W) (hx : x < 256) : x * 2 ^ (W - 8) < 2 ^ W := by
  have e2 : 2 ^ W = 256 * 2 ^ (W - 8) := by rw [show (256 : Nat) = 2 ^ 8 from rfl, ← Nat.pow_add]; congr 1; omega
  rw [e2]
  exact Nat.mul_lt_mul_of_pos_right hx (Nat.pow_pos (by omega))
theorem bst_inj {R : Bool} {W P c d x : Nat} (hW : 8 ≤ W) (hP : P % 2 = 1) (hP2 : P < 2 ^ W) (hc : c < 2 ^ W) (hd : d < 2 ^ W) (h : bst R W P c x = bst R W P d x) : c = d := by
  have e : bst R W P (c ^^^ d) (x ^^^ x) = 0 := by rw [bst_xor, h, Nat.xor_self]
  rw [Nat.xor_self] at e
  unfold bst at e
  have t0 : takeN R 0 = 0 := by
    have := takeN_xor R 0 0
    rw [Nat.xor_self, Nat.xor_self] at this
    exact this
  rw [t0, Nat.zero_mul, Nat.xor_zero] at e
  exact xor_zero_iff (stpN_zero (by omega) hP hP2 8 (Nat.xor_lt_two_pow hc hd) e)
theorem regs_inj {R : Bool} {W P : Nat} (hW : 8 ≤ W) (hP : P % 2 = 1) (hP2 : P < 2 ^ W) : ∀ (B : List Nat) {c d : Nat}, (∀ x ∈ B, x < 256) → c < 2 ^ W → d < 2 ^ W → regs R W P c B = regs R W P d B → c = d
  | [], _, _, _, _, _, h => h
  | x :: B, c, d, hB, hc, hd, h => by
    have hx := hB x List.mem_cons_self
    rw [regs_cons hW hx, regs_cons hW hx] at h
    exact bst_inj hW hP hP2 hc hd (regs_inj hW hP hP2 B (fun y hy => hB y (List.mem_cons_of_mem _ hy)) (bst_lt hW hP2 hx hc) (bst_lt hW hP2 hx hd) h)
theorem regs_append (R : Bool) (W P : Nat) (A B : List Nat) : ∀ c, regs R W P c (A ++ B) = regs R W P (regs R W P c A) B := by
  induction A with
  | nil => intro c; rfl
  | cons a A ih => intro c; exact ih _
theorem rev_rev {x n : Nat} (h : x < 2 ^ n) : rev (rev x n) n = x := by
  refine Nat.eq_of_testBit_eq fun i => ?_
  rw [rev_testBit, rev_testBit]
  by_cases hi : i < n
  · simp [hi, show n - 1 - i < n by omega, show n - 1 - (n - 1 - i) = i by omega]
  · have hb : x.testBit i = false := Nat.testBit_lt_two_pow (Nat.lt_of_lt_of_le h (Nat.pow_le_pow_right (by omega) (show n ≤ i by omega)))
    simp [hi, hb]
theorem turn_turn {R : Bool} {W x : Nat} (h : x < 2 ^ W) : turn R W (turn R W x) = x := by
  unfold turn
  cases R
  · simp
  · simp only [if_true]; exact rev_rev h
theorem takeN_inj {R : Bool} {x y : Nat} (hx : x < 256) (hy : y < 256) (h : takeN R x = takeN R y) : x = y := by
  unfold takeN at h
  cases R
  · simpa using h
  · simp only [if_true] at h
    rw [← rev_rev (n := 8) hx, h, rev_rev (n := 8) hy]
theorem bst_byte {R : Bool} {W P c x y : Nat} (hW : 8 ≤ W) (hP : P % 2 = 1) (hP2 : P < 2 ^ W) (hx : x < 256) (hy : y < 256) (h : bst R W P c x = bst R W P c y) : x = y := by
  have e : bst R W P (c ^^^ c) (x ^^^ y) = 0 := by rw [bst_xor, h, Nat.xor_self]
  rw [Nat.xor_self] at e
  unfold bst at e
  rw [Nat.zero_xor] at e
  have hxy : x ^^^ y < 256 := Nat.xor_lt_two_pow (n := 8) hx hy
  have z := stpN_zero (by omega) hP hP2 8 (place_lt hW (takeN_lt (R := R) hxy)) e
  have z2 : takeN R (x ^^^ y) = 0 := by
    rcases Nat.eq_zero_or_pos (takeN R (x ^^^ y)) with h0 | h0
    · exact h0
    · exfalso
      have := Nat.mul_pos h0 (Nat.pow_pos (n := W - 8) (show 0 < 2 by omega))
      omega
  rw [takeN_xor] at z2
  exact takeN_inj hx hy (xor_zero_iff z2)
theorem crc_inj {R : Bool} {W O a b : Nat} (ha : a < 2 ^ W) (hb : b < 2 ^ W) (h : turn R W a ^^^ O = turn R W b ^^^ O) : a = b := by
  have e : turn R W a = turn R W b := by
    have := congrArg (· ^^^ O) h
    simpa only [Nat.xor_assoc, Nat.xor_self, Nat.xor_zero] using this
  rw [← turn_turn ha, e, turn_turn hb]
/-- One byte alone that is another one tells. -/
theorem crc_one {R : Bool} {W P I O : Nat} (h : okN W P I O) {A B : List Nat} {x y : Nat} (hA : ∀ z ∈ A, z < 256) (hB : ∀ z ∈ B, z < 256) (hx : x < 256) (hy : y < 256) (e : crc R W P I O (A ++ x :: B) = crc R W P I O (A ++ y :: B)) : x = y := by
  obtain ⟨h1, h2, h3, h4, h5⟩ := h
  have hW : 8 ≤ W := by omega
  have hAx : ∀ (C : List Nat), regs R W P I C < 2 ^ W := fun C => regs_lt h2 C h3
  unfold crc at e
  have e2 := crc_inj (hAx _) (hAx _) e
  rw [regs_append, regs_append, regs_cons hW hx, regs_cons hW hy] at e2
  exact bst_byte hW h5 h2 hx hy (regs_inj hW h5 h2 B hB (bst_lt hW h2 hx (hAx A)) (bst_lt hW h2 hy (hAx A)) e2)
end Go.Proofs.Ytaoeehnnboegnaa.Crc
