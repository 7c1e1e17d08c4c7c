/- Pairs of rows of bits: sums, distances, bursts, as plain functions of lists of numbers. -/
import Derived.Test.YtgebmeojmenomaaBkQBit1
import Derived.Test.YtgebmeojmenomaaBkPx6
import Derived.Test.YtgebmeojmenomaaBkPx7
set_option linter.unusedVariables false
set_option linter.unusedSimpArgs false
namespace Go.Proofs.YtgebmeojmenomaaW.Q
open Go.RowKit Go.Proofs.YtgebmeojmenomaaW.PrintWords Go.Proofs.YtgebmeojmenomaaW.PrintLast Go.Proofs.YtgebmeojmenomaaW.PrintMore Go.Proofs.Ytgebmeojmenomaa.P
/-- The error of two rows. -/
def pairE (A B : List Nat) : Int := if (vld A && vld B) = true then (if A.length = B.length then 0 else 5) else 10
theorem pair_f (A B : List Nat) (hA : A.length ≤ 140737488355328) (hB : B.length ≤ 140737488355328) : Ev (fun k => bitrow_pair.f k (ints A) (ints B)) (pairE A B) := by
  unfold bitrow_pair.f pairE
  refine Ev.bind (Valid_f A hA) ?_
  by_cases h : vld A = true
  · simp only [h, if_true, Bool.true_and]
    refine Ev.bind (Valid_f B hB) ?_
    refine Ev.intro 1 fun k hk => ?_
    obtain ⟨k, rfl⟩ : ∃ m, k = m + 1 := ⟨k - 1, by omega⟩
    simp only [bitrow_pair.j0, ints_length]
    by_cases h2 : vld B = true
    · simp only [h2, Bool.not_true, Bool.false_eq_true, if_false, if_true]
      by_cases h3 : A.length = B.length
      · rw [if_pos (by omega), if_pos h3]
      · rw [if_neg (by omega), if_neg h3]
    · simp only [Bool.eq_false_iff.mpr h2, Bool.not_false, if_true, Bool.false_eq_true, if_false]
  · simp only [Bool.eq_false_iff.mpr h, Bool.false_eq_true, if_false, Bool.false_and]
    refine Ev.intro 1 fun k hk => ?_
    obtain ⟨k, rfl⟩ : ∃ m, k = m + 1 := ⟨k - 1, by omega⟩
    simp only [bitrow_pair.j0, if_true]
theorem Rpair_f (A B : List Nat) (hA : A.length ≤ 140737488355328) (hB : B.length ≤ 140737488355328) : Ev (fun k => outpostref01_pair.f k (ints A) (ints B)) (pairE A B) := by
  unfold outpostref01_pair.f pairE
  refine Ev.bind (RValid_f A hA) ?_
  by_cases h : vld A = true
  · simp only [h, if_true, Bool.true_and]
    refine Ev.bind (RValid_f B hB) ?_
    refine Ev.intro 1 fun k hk => ?_
    obtain ⟨k, rfl⟩ : ∃ m, k = m + 1 := ⟨k - 1, by omega⟩
    simp only [outpostref01_pair.j0, ints_length]
    by_cases h2 : vld B = true
    · simp only [h2, Bool.not_true, Bool.false_eq_true, if_false, if_true]
      by_cases h3 : A.length = B.length
      · rw [if_pos (by omega), if_pos h3]
      · rw [if_neg (by omega), if_neg h3]
    · simp only [Bool.eq_false_iff.mpr h2, Bool.not_false, if_true, Bool.false_eq_true, if_false]
  · simp only [Bool.eq_false_iff.mpr h, Bool.false_eq_true, if_false, Bool.false_and]
    refine Ev.intro 1 fun k hk => ?_
    obtain ⟨k, rfl⟩ : ∃ m, k = m + 1 := ⟨k - 1, by omega⟩
    simp only [outpostref01_pair.j0, if_true]
theorem pairE_zero {A B : List Nat} (h : pairE A B = 0) : vld A = true ∧ vld B = true ∧ A.length = B.length := by
  unfold pairE at h
  by_cases h1 : (vld A && vld B) = true
  · rw [if_pos h1] at h
    by_cases h2 : A.length = B.length
    · simp only [Bool.and_eq_true] at h1
      exact ⟨h1.1, h1.2, h2⟩
    · rw [if_neg h2] at h; omega
  · rw [if_neg h1] at h; omega
theorem pairE_of {A B : List Nat} (h1 : vld A = true) (h2 : vld B = true) (h3 : A.length = B.length) : pairE A B = 0 := by
  unfold pairE
  rw [h1, h2, if_pos (by rfl), if_pos h3]
/-- Added up, bit by bit. -/
def xorL (A B : List Nat) : List Nat := List.zipWith (fun a b => a ^^^ b) A B
theorem xorL_length {A B : List Nat} (h : A.length = B.length) : (xorL A B).length = A.length := by simp [xorL, h]
theorem getD_zip {A B : List Nat} (h : A.length = B.length) {i : Nat} (hi : i < A.length) : (xorL A B)[i]'(by rw [xorL_length h]; exact hi) = A.getD i 0 ^^^ B.getD i 0 := by
  simp [xorL, List.getD_eq_getElem?_getD, List.getElem?_eq_getElem hi, List.getElem?_eq_getElem (show i < B.length by omega)]
/-- A row that is filled place by place. -/
theorem fill_step {L out : List Nat} {i v : Nat} (hi : i < L.length) (hl : out.length = L.length) (h : out.take i = L.take i) (hv : L[i] = v) : (out.set i v).take (i + 1) = L.take (i + 1) := by
  rw [List.take_succ_eq_append_getElem (by rw [List.length_set]; omega), List.take_succ_eq_append_getElem hi, List.getElem_set_self, List.take_set_of_le (Nat.le_refl _), h, hv]
theorem bit_lt {a : Nat} (h : a ≤ 1) : a < 256 := by omega
theorem Xor_l0 (A B : List Nat) (hA : A.length ≤ 140737488355328) (hl : A.length = B.length) (ha : ∀ x ∈ A, x ≤ 1) (hb : ∀ x ∈ B, x ≤ 1) (d : Nat) : ∀ (k i : Nat) (out : List Nat), out.length = A.length → out.take i = (xorL A B).take i → i + d = A.length → d < k →
    bitrow_Xor.l0 k (ints A) (ints B) (ints out) (A.length : Int) (i : Int) = some (ints (xorL A B), 0) := by
  induction d with
  | zero =>
    intro k i out ho ht hi hk
    obtain ⟨k, rfl⟩ : ∃ m, k = m + 1 := ⟨k - 1, by omega⟩
    simp only [bitrow_Xor.l0]
    rw [List.take_of_length_le (by omega), List.take_of_length_le (by rw [xorL_length hl]; omega)] at ht
    rw [if_neg (by omega), ht]
  | succ d ih =>
    intro k i out ho ht hi hk
    obtain ⟨k, rfl⟩ : ∃ m, k = m + 1 := ⟨k - 1, by omega⟩
    have h1 := getD_le1 ha i
    have h2 := getD_le1 hb i
    simp only [bitrow_Xor.l0]
    rw [if_pos (by omega), if_pos (by omega), if_pos (by rw [ints_length]; omega), if_pos (by rw [ints_length]; omega), if_pos (by rw [ints_length]; omega), rd_ints, rd_ints, bxor8 _ _ (bit_lt h1) (bit_lt h2), set_ints, w64s (by omega)]
    exact ih k (i + 1) _ (by rw [List.length_set]; exact ho) (fill_step (by rw [xorL_length hl]; omega) (by rw [xorL_length hl]; exact ho) ht (getD_zip hl (by omega))) (by omega) (by omega)
theorem Xor_f (A B : List Nat) (hA : A.length ≤ 140737488355328) (hB : B.length ≤ 140737488355328) : Ev (fun k => bitrow_Xor.f k (ints A) (ints B)) (if pairE A B = 0 then (ints (xorL A B), 0) else ([], pairE A B)) := by
  unfold bitrow_Xor.f
  refine Ev.bind (pair_f A B hA hB) ?_
  by_cases h : pairE A B = 0
  · obtain ⟨h1, h2, h3⟩ := pairE_zero h
    rw [if_pos h]
    refine Ev.intro (A.length + 1) fun k hk => ?_
    rw [if_pos h, ints_length, if_pos (by omega), Int.toNat_natCast, if_pos (by omega), Option.bind_some, List.length_replicate, ← ints_replicate]
    exact Xor_l0 A B hA h3 (vld_le h1) (vld_le h2) A.length k 0 _ (by simp) (by simp) (by omega) (by omega)
  · rw [if_neg h]
    refine Ev.intro 0 fun k hk => ?_
    rw [if_neg h]
theorem bits_add {a b : Nat} (h1 : a ≤ 1) (h2 : b ≤ 1) : Int.tmod (((a : Int) + (b : Int)) % 256) 2 = ((a ^^^ b : Nat) : Int) := by
  rcases (show a = 0 ∨ a = 1 by omega) with rfl | rfl <;> rcases (show b = 0 ∨ b = 1 by omega) with rfl | rfl <;> rfl
theorem RXor_l0 (A B : List Nat) (hA : A.length ≤ 140737488355328) (hl : A.length = B.length) (ha : ∀ x ∈ A, x ≤ 1) (hb : ∀ x ∈ B, x ≤ 1) (d : Nat) : ∀ (k i : Nat) (out : List Nat), out.length = A.length → out.take i = (xorL A B).take i → i + d = A.length → d < k →
    outpostref01_Xor.l0 k (ints A) (ints B) (ints out) (i : Int) = some (ints (xorL A B), 0) := by
  induction d with
  | zero =>
    intro k i out ho ht hi hk
    obtain ⟨k, rfl⟩ : ∃ m, k = m + 1 := ⟨k - 1, by omega⟩
    simp only [outpostref01_Xor.l0]
    rw [List.take_of_length_le (by omega), List.take_of_length_le (by rw [xorL_length hl]; omega)] at ht
    rw [ints_length, if_neg (by omega), ht]
  | succ d ih =>
    intro k i out ho ht hi hk
    obtain ⟨k, rfl⟩ : ∃ m, k = m + 1 := ⟨k - 1, by omega⟩
    have h1 := getD_le1 ha i
    have h2 := getD_le1 hb i
    simp only [outpostref01_Xor.l0]
    rw [ints_length, if_pos (by omega), if_pos (by omega), if_pos (by rw [ints_length]; omega), if_pos (by rw [ints_length]; omega), rd_ints, rd_ints, bits_add h1 h2, set_ints, w64s (by omega)]
    exact ih k (i + 1) _ (by rw [List.length_set]; exact ho) (fill_step (by rw [xorL_length hl]; omega) (by rw [xorL_length hl]; exact ho) ht (getD_zip hl (by omega))) (by omega) (by omega)
theorem RXor_f (A B : List Nat) (hA : A.length ≤ 140737488355328) (hB : B.length ≤ 140737488355328) : Ev (fun k => outpostref01_Xor.f k (ints A) (ints B)) (if pairE A B = 0 then (ints (xorL A B), 0) else ([], pairE A B)) := by
  unfold outpostref01_Xor.f
  refine Ev.bind (Rpair_f A B hA hB) ?_
  by_cases h : pairE A B = 0
  · obtain ⟨h1, h2, h3⟩ := pairE_zero h
    rw [if_pos h]
    refine Ev.intro (A.length + 1) fun k hk => ?_
    rw [if_pos h, ints_length, if_pos (by omega), Int.toNat_natCast, if_pos (by omega), ← ints_replicate]
    exact RXor_l0 A B hA h3 (vld_le h1) (vld_le h2) A.length k 0 _ (by simp) (by simp) (by omega) (by omega)
  · rw [if_neg h]
    refine Ev.intro 0 fun k hk => ?_
    rw [if_neg h]
/-- In how many places they are unlike. -/
def dist : List Nat → List Nat → Nat
  | a :: A, b :: B => (if a = b then 0 else 1) + dist A B
  | _, _ => 0
theorem dist_le : ∀ A B : List Nat, dist A B ≤ A.length
  | a :: A, b :: B => by have := dist_le A B; simp only [dist, List.length_cons]; split <;> omega
  | [], _ => by simp [dist]
  | _ :: _, [] => by simp [dist]
theorem Distance_l0 (A B : List Nat) (hA : A.length ≤ 140737488355328) (hl : A.length = B.length) (d : Nat) : ∀ (k i n : Nat), n ≤ i → i + d = A.length → d < k →
    bitrow_Distance.l0 k (ints A) (ints B) (n : Int) (A.length : Int) (i : Int) = some (((n + dist (A.drop i) (B.drop i) : Nat) : Int), 0) := by
  induction d with
  | zero =>
    intro k i n hn hi hk
    obtain ⟨k, rfl⟩ : ∃ m, k = m + 1 := ⟨k - 1, by omega⟩
    simp only [bitrow_Distance.l0]
    rw [if_neg (by omega), List.drop_eq_nil_of_le (by omega)]
    rfl
  | succ d ih =>
    intro k i n hn hi hk
    obtain ⟨k, rfl⟩ : ∃ m, k = m + 1 := ⟨k - 1, by omega⟩
    simp only [bitrow_Distance.l0]
    rw [if_pos (by omega), if_pos (by omega), if_pos (by rw [ints_length]; omega), if_pos (by rw [ints_length]; omega), rd_ints, rd_ints, w64s (i := i) (by omega), w64s (i := n) (by omega), drop_get (B := A) (i := i) (by omega), drop_get (B := B) (i := i) (by omega), dist]
    by_cases h : A.getD i 0 = B.getD i 0
    · rw [if_pos (by omega), if_pos h, ih k (i + 1) n (by omega) (by omega) (by omega), Nat.zero_add]
    · rw [if_neg (by omega), if_neg h, ih k (i + 1) (n + 1) (by omega) (by omega) (by omega), Nat.add_assoc]
theorem Distance_f (A B : List Nat) (hA : A.length ≤ 140737488355328) (hB : B.length ≤ 140737488355328) : Ev (fun k => bitrow_Distance.f k (ints A) (ints B)) (if pairE A B = 0 then ((dist A B : Int), 0) else (0, pairE A B)) := by
  unfold bitrow_Distance.f
  refine Ev.bind (pair_f A B hA hB) ?_
  by_cases h : pairE A B = 0
  · obtain ⟨h1, h2, h3⟩ := pairE_zero h
    rw [if_pos h]
    refine Ev.intro (A.length + 1) fun k hk => ?_
    rw [if_pos h, ints_length]
    have := Distance_l0 A B hA h3 A.length k 0 0 (by omega) (by omega) (by omega)
    rw [List.drop_zero, List.drop_zero, Nat.zero_add] at this
    exact this
  · rw [if_neg h]
    refine Ev.intro 0 fun k hk => ?_
    rw [if_neg h]
theorem RDistance_l0 (A B : List Nat) (hA : A.length ≤ 140737488355328) (hl : A.length = B.length) (d : Nat) : ∀ (k i n : Nat), n ≤ i → i + d = A.length → d < k →
    outpostref01_Distance.l0 k (ints A) (ints B) (n : Int) (i : Int) = some (((n + dist (A.drop i) (B.drop i) : Nat) : Int), 0) := by
  induction d with
  | zero =>
    intro k i n hn hi hk
    obtain ⟨k, rfl⟩ : ∃ m, k = m + 1 := ⟨k - 1, by omega⟩
    simp only [outpostref01_Distance.l0]
    rw [ints_length, if_neg (by omega), List.drop_eq_nil_of_le (by omega)]
    rfl
  | succ d ih =>
    intro k i n hn hi hk
    obtain ⟨k, rfl⟩ : ∃ m, k = m + 1 := ⟨k - 1, by omega⟩
    simp only [outpostref01_Distance.l0]
    rw [ints_length, if_pos (by omega), if_pos (by omega), if_pos (by rw [ints_length]; omega), rd_ints, rd_ints, w64s (i := i) (by omega), w64s (i := n) (by omega), drop_get (B := A) (i := i) (by omega), drop_get (B := B) (i := i) (by omega), dist]
    by_cases h : A.getD i 0 = B.getD i 0
    · rw [if_pos (by omega), if_pos h, ih k (i + 1) n (by omega) (by omega) (by omega), Nat.zero_add]
    · rw [if_neg (by omega), if_neg h, ih k (i + 1) (n + 1) (by omega) (by omega) (by omega), Nat.add_assoc]
theorem RDistance_f (A B : List Nat) (hA : A.length ≤ 140737488355328) (hB : B.length ≤ 140737488355328) : Ev (fun k => outpostref01_Distance.f k (ints A) (ints B)) (if pairE A B = 0 then ((dist A B : Int), 0) else (0, pairE A B)) := by
  unfold outpostref01_Distance.f
  refine Ev.bind (Rpair_f A B hA hB) ?_
  by_cases h : pairE A B = 0
  · obtain ⟨h1, h2, h3⟩ := pairE_zero h
    rw [if_pos h]
    refine Ev.intro (A.length + 1) fun k hk => ?_
    rw [if_pos h]
    have := RDistance_l0 A B hA h3 A.length k 0 0 (by omega) (by omega) (by omega)
    rw [List.drop_zero, List.drop_zero, Nat.zero_add] at this
    exact this
  · rw [if_neg h]
    refine Ev.intro 0 fun k hk => ?_
    rw [if_neg h]
/-- The first and the last unlike place, from place i on. -/
def ends (i : Nat) (s : Option (Nat × Nat)) : List Nat → List Nat → Option (Nat × Nat)
  | a :: A, b :: B => ends (i + 1) (if a = b then s else some ((s.map (·.1)).getD i, i)) A B
  | _, _ => s
def at_ (s : Option (Nat × Nat)) : Nat := match s with | none => 0 | some (f, _) => f
def long_ (s : Option (Nat × Nat)) : Nat := match s with | none => 0 | some (f, l) => l - f + 1
def Fine (i : Nat) (s : Option (Nat × Nat)) : Prop := ∀ f l, s = some (f, l) → f ≤ l ∧ l < i
theorem Fine.step {i : Nat} {s : Option (Nat × Nat)} (h : Fine i s) : Fine (i + 1) (some ((s.map (·.1)).getD i, i)) := by
  intro f l e
  injection e with e
  injection e with e1 e2
  subst e2
  cases s with
  | none => simp at e1; omega
  | some p =>
    obtain ⟨f', l'⟩ := p
    have := h f' l' rfl
    simp at e1
    omega
theorem Fine.keep {i : Nat} {s : Option (Nat × Nat)} (h : Fine i s) : Fine (i + 1) s := fun f l e => by have := h f l e; omega
theorem Burst_l0 (A B : List Nat) (hA : A.length ≤ 140737488355328) (hl : A.length = B.length) (d : Nat) : ∀ (k i : Nat) (s : Option (Nat × Nat)), Fine i s → i + d = A.length → d < k →
    bitrow_Burst.l0 k (ints A) (ints B) (at_ s : Int) (long_ s : Int) (A.length : Int) (i : Int) = some ((at_ (ends i s (A.drop i) (B.drop i)) : Int), (long_ (ends i s (A.drop i) (B.drop i)) : Int), 0) := by
  induction d with
  | zero =>
    intro k i s hs hi hk
    obtain ⟨k, rfl⟩ : ∃ m, k = m + 1 := ⟨k - 1, by omega⟩
    simp only [bitrow_Burst.l0]
    rw [if_neg (by omega), List.drop_eq_nil_of_le (by omega)]
    rfl
  | succ d ih =>
    intro k i s hs hi hk
    obtain ⟨k, rfl⟩ : ∃ m, k = m + 1 := ⟨k - 1, by omega⟩
    simp only [bitrow_Burst.l0]
    rw [if_pos (by omega), if_pos (by omega), if_pos (by rw [ints_length]; omega), if_pos (by rw [ints_length]; omega), rd_ints, rd_ints, w64s (i := i) (by omega), drop_get (B := A) (i := i) (by omega), drop_get (B := B) (i := i) (by omega), ends]
    by_cases h : A.getD i 0 = B.getD i 0
    · rw [if_pos (by omega), if_pos h, ih k (i + 1) s hs.keep (by omega) (by omega)]
    · rw [if_neg (by omega), if_neg h]
      have ih' := ih k (i + 1) _ hs.step (by omega) (by omega)
      cases s with
      | none =>
        rw [if_pos (by simp [long_]), show wrap64 (wrap64 ((i : Int) - (i : Int)) + 1) = 1 from by rw [Int.sub_self]; simp [wrap64]]
        rw [← ih']
        simp [at_, long_]
      | some p =>
        obtain ⟨f, l⟩ := p
        have hf := hs f l rfl
        rw [if_neg (by simp only [long_]; omega), ← ih']
        have e : wrap64 (wrap64 ((i : Int) - (at_ (some (f, l)) : Int)) + 1) = ((i - f + 1 : Nat) : Int) := by
          simp only [at_]
          rw [w64 (n := (i : Int) - (f : Int)) (by omega) (by omega), w64 (by omega) (by omega)]
          omega
        rw [e]
        rfl
theorem Burst_f (A B : List Nat) (hA : A.length ≤ 140737488355328) (hB : B.length ≤ 140737488355328) : Ev (fun k => bitrow_Burst.f k (ints A) (ints B)) (if pairE A B = 0 then ((at_ (ends 0 none A B) : Int), (long_ (ends 0 none A B) : Int), 0) else (0, 0, pairE A B)) := by
  unfold bitrow_Burst.f
  refine Ev.bind (pair_f A B hA hB) ?_
  by_cases h : pairE A B = 0
  · obtain ⟨h1, h2, h3⟩ := pairE_zero h
    rw [if_pos h]
    refine Ev.intro (A.length + 1) fun k hk => ?_
    rw [if_pos h, ints_length]
    exact Burst_l0 A B hA h3 A.length k 0 none (fun f l e => by cases e) (by omega) (by omega)
  · rw [if_neg h]
    refine Ev.intro 0 fun k hk => ?_
    rw [if_neg h]
def first_ (s : Option (Nat × Nat)) : Int := match s with | none => -1 | some (f, _) => f
def last_1 (s : Option (Nat × Nat)) : Int := match s with | none => -1 | some (_, l) => l
theorem RBurst_l0 (A B : List Nat) (hA : A.length ≤ 140737488355328) (hl : A.length = B.length) (d : Nat) : ∀ (k i : Nat) (s : Option (Nat × Nat)), Fine i s → i + d = A.length → d < k →
    outpostref01_Burst.l0 k (ints A) (ints B) (first_ s) (last_1 s) (i : Int) = some ((at_ (ends i s (A.drop i) (B.drop i)) : Int), (long_ (ends i s (A.drop i) (B.drop i)) : Int), 0) := by
  induction d with
  | zero =>
    intro k i s hs hi hk
    obtain ⟨k, rfl⟩ : ∃ m, k = m + 1 := ⟨k - 1, by omega⟩
    simp only [outpostref01_Burst.l0]
    rw [ints_length, if_neg (by omega), List.drop_eq_nil_of_le (by omega)]
    cases s with
    | none => rfl
    | some p =>
      obtain ⟨f, l⟩ := p
      have hf := hs f l rfl
      show (if (f : Int) < 0 then some ((0 : Int), (0 : Int), (0 : Int)) else some ((f : Int), wrap64 (wrap64 ((l : Int) - (f : Int)) + 1), (0 : Int))) = some ((f : Int), ((l - f + 1 : Nat) : Int), (0 : Int))
      rw [if_neg (by omega), w64 (n := (l : Int) - (f : Int)) (by omega) (by omega), w64 (by omega) (by omega), show (l : Int) - (f : Int) + 1 = ((l - f + 1 : Nat) : Int) by omega]
  | succ d ih =>
    intro k i s hs hi hk
    obtain ⟨k, rfl⟩ : ∃ m, k = m + 1 := ⟨k - 1, by omega⟩
    simp only [outpostref01_Burst.l0]
    rw [ints_length, if_pos (by omega), if_pos (by omega), if_pos (by rw [ints_length]; omega), rd_ints, rd_ints, w64s (i := i) (by omega), drop_get (B := A) (i := i) (by omega), drop_get (B := B) (i := i) (by omega), ends]
    by_cases h : A.getD i 0 = B.getD i 0
    · rw [if_pos (by omega), if_pos h, ih k (i + 1) s hs.keep (by omega) (by omega)]
    · rw [if_neg (by omega), if_neg h]
      have ih' := ih k (i + 1) _ hs.step (by omega) (by omega)
      cases s with
      | none =>
        rw [if_pos (by simp [first_]), ← ih']
        rfl
      | some p =>
        obtain ⟨f, l⟩ := p
        rw [if_neg (by simp only [first_]; omega), ← ih']
        rfl
theorem RBurst_f (A B : List Nat) (hA : A.length ≤ 140737488355328) (hB : B.length ≤ 140737488355328) : Ev (fun k => outpostref01_Burst.f k (ints A) (ints B)) (if pairE A B = 0 then ((at_ (ends 0 none A B) : Int), (long_ (ends 0 none A B) : Int), 0) else (0, 0, pairE A B)) := by
  unfold outpostref01_Burst.f
  refine Ev.bind (Rpair_f A B hA hB) ?_
  by_cases h : pairE A B = 0
  · obtain ⟨h1, h2, h3⟩ := pairE_zero h
    rw [if_pos h]
    refine Ev.intro (A.length + 1) fun k hk => ?_
    rw [if_pos h]
    exact RBurst_l0 A B hA h3 A.length k 0 none (fun f l e => by cases e) (by omega) (by omega)
  · rw [if_neg h]
    refine Ev.intro 0 fun k hk => ?_
    rw [if_neg h]
end Go.Proofs.YtgebmeojmenomaaW.Q
