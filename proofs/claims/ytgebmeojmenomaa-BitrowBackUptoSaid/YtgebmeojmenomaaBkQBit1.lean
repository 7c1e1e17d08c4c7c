/- Bits, packing: what the printed functions of the layer bitrow come to, as plain functions of lists of numbers. -/
import Derived.Test.YtgebmeojmenomaaBkQBase
import Derived.Test.YtgebmeojmenomaaBkPx3
set_option linter.unusedVariables false
set_option linter.unusedSimpArgs false
namespace Go.Proofs.YtgebmeojmenomaaW.Q
open Go.RowKit Go.Proofs.YtgebmeojmenomaaW.PrintWords Go.Proofs.YtgebmeojmenomaaW.PrintLast Go.Proofs.YtgebmeojmenomaaW.PrintMore Go.Proofs.Ytgebmeojmenomaa.P
/-- Is each one 0 or 1? -/
def vld (B : List Nat) : Bool := B.all fun x => decide (x ≤ 1)
theorem vld_le {B : List Nat} (h : vld B = true) : ∀ x ∈ B, x ≤ 1 := by
  intro x hx
  have := List.all_eq_true.1 h x hx
  simpa using this
theorem vld_cons (a : Nat) (B : List Nat) : vld (a :: B) = (decide (a ≤ 1) && vld B) := rfl
theorem Valid_l0 (B : List Nat) (hB : B.length ≤ 140737488355328) (d : Nat) : ∀ (k i : Nat), i + d = B.length → d < k → bitrow_Valid.l0 k (ints B) (B.length : Int) (i : Int) = some (vld (B.drop i)) := by
  induction d with
  | zero =>
    intro k i hi hk
    obtain ⟨k, rfl⟩ : ∃ m, k = m + 1 := ⟨k - 1, by omega⟩
    simp only [bitrow_Valid.l0]
    rw [if_neg (by omega), List.drop_eq_nil_of_le (by omega)]
    rfl
  | succ d ih =>
    intro k i hi hk
    obtain ⟨k, rfl⟩ : ∃ m, k = m + 1 := ⟨k - 1, by omega⟩
    simp only [bitrow_Valid.l0]
    rw [if_pos (by omega), if_pos (by omega), if_pos (by rw [ints_length]; omega), rd_ints, drop_get (by omega), vld_cons]
    by_cases h : B.getD i 0 ≤ 1
    · rw [if_neg (by omega), w64s (by omega), ih k (i + 1) (by omega) (by omega), decide_eq_true h]
      rfl
    · rw [if_pos (by omega), decide_eq_false h]
      rfl
theorem Valid_f (B : List Nat) (hB : B.length ≤ 140737488355328) : Ev (fun k => bitrow_Valid.f k (ints B)) (vld B) :=
  Ev.intro (B.length + 1) fun k hk => by
    unfold bitrow_Valid.f
    rw [ints_length]
    exact Valid_l0 B hB B.length k 0 (by omega) (by omega)
theorem RValid_l0 (B : List Nat) (hB : B.length ≤ 140737488355328) (d : Nat) : ∀ (k i : Nat), i + d = B.length → d < k → outpostref01_Valid.l0 k (ints B) (i : Int) = some (vld (B.drop i)) := by
  induction d with
  | zero =>
    intro k i hi hk
    obtain ⟨k, rfl⟩ : ∃ m, k = m + 1 := ⟨k - 1, by omega⟩
    simp only [outpostref01_Valid.l0]
    rw [ints_length, if_neg (by omega), List.drop_eq_nil_of_le (by omega)]
    rfl
  | succ d ih =>
    intro k i hi hk
    obtain ⟨k, rfl⟩ : ∃ m, k = m + 1 := ⟨k - 1, by omega⟩
    simp only [outpostref01_Valid.l0]
    rw [ints_length, if_pos (by omega), if_pos (by omega), rd_ints, drop_get (by omega), vld_cons, w64s (by omega), ih k (i + 1) (by omega) (by omega)]
    by_cases h0 : B.getD i 0 = 0
    · rw [if_pos (by omega), h0]
      rfl
    · rw [if_neg (by omega)]
      by_cases h1 : B.getD i 0 = 1
      · rw [if_pos (by omega), h1]
        rfl
      · rw [if_neg (by omega), decide_eq_false (by omega)]
        rfl
theorem RValid_f (B : List Nat) (hB : B.length ≤ 140737488355328) : Ev (fun k => outpostref01_Valid.f k (ints B)) (vld B) :=
  Ev.intro (B.length + 1) fun k hk => RValid_l0 B hB B.length k 0 (by omega) (by omega)
/-- One more bit packed: bit i is laid into its byte. -/
def putBit (out : List Nat) (i x : Nat) : List Nat := out.set (i / 8) (out.getD (i / 8) 0 + x * 2 ^ (7 - i % 8))
/-- Bits from place i on, packed. -/
def packFrom (out : List Nat) (i : Nat) : List Nat → List Nat
  | [] => out
  | x :: B => packFrom (putBit out i x) (i + 1) B
def pack (B : List Nat) : List Nat := packFrom (List.replicate ((B.length + 7) / 8) 0) 0 B
/-- From bit i on nothing is laid yet. -/
def Clear (out : List Nat) (i n : Nat) : Prop := out.length = (n + 7) / 8 ∧ ∀ j, out.getD j 0 < 256 ∧ (i ≤ 8 * j → out.getD j 0 = 0) ∧ (8 * j < i → i < 8 * j + 8 → out.getD j 0 % 2 ^ (8 - i % 8) = 0)
theorem pow_le8 {m : Nat} (h : m ≤ 8) : 2 ^ m ≤ 256 := by
  calc 2 ^ m ≤ 2 ^ 8 := Nat.pow_le_pow_right (by omega) h
    _ = 256 := rfl
theorem getD_set_self {B : List Nat} {i v : Nat} (h : i < B.length) : (B.set i v).getD i 0 = v := by
  rw [List.getD_eq_getElem?_getD, List.getElem?_set_self h]; rfl
theorem getD_set_ne {B : List Nat} {i j v : Nat} (h : i ≠ j) : (B.set i v).getD j 0 = B.getD j 0 := by
  rw [List.getD_eq_getElem?_getD, List.getElem?_set_ne h, ← List.getD_eq_getElem?_getD]
theorem Clear.byte {out : List Nat} {i n : Nat} (h : Clear out i n) : out.getD (i / 8) 0 % 2 ^ (8 - i % 8) = 0 := by
  obtain ⟨_, h⟩ := h
  obtain ⟨_, h1, h2⟩ := h (i / 8)
  by_cases e : i % 8 = 0
  · rw [h1 (by omega)]; simp
  · exact h2 (by omega) (by omega)
theorem Clear.bits {out : List Nat} {i n x : Nat} (h : Clear out i n) (hx : x ≤ 1) : out.getD (i / 8) 0 ||| (x * 2 ^ (7 - i % 8)) = out.getD (i / 8) 0 + x * 2 ^ (7 - i % 8) := by
  refine nat_join (8 - i % 8) _ _ h.byte ?_
  have : 2 ^ (8 - i % 8) = 2 * 2 ^ (7 - i % 8) := by
    rw [show 8 - i % 8 = (7 - i % 8) + 1 by omega, Nat.pow_succ]; omega
  have hp : 0 < 2 ^ (7 - i % 8) := Nat.pow_pos (by omega)
  rw [this]
  rcases (show x = 0 ∨ x = 1 by omega) with rfl | rfl <;> omega
theorem Clear.lt {out : List Nat} {i n x : Nat} (h : Clear out i n) (hx : x ≤ 1) : out.getD (i / 8) 0 + x * 2 ^ (7 - i % 8) < 256 := by
  have hb := h.byte
  have hl := (h.2 (i / 8)).1
  have hp : 0 < 2 ^ (7 - i % 8) := Nat.pow_pos (by omega)
  have e : 2 ^ (8 - i % 8) = 2 * 2 ^ (7 - i % 8) := by
    rw [show 8 - i % 8 = (7 - i % 8) + 1 by omega, Nat.pow_succ]; omega
  have e2 : 2 ^ (8 - i % 8) * 2 ^ (i % 8) = 256 := by rw [← Nat.pow_add, show 8 - i % 8 + i % 8 = 8 by omega]
  obtain ⟨q, hq⟩ := Nat.dvd_of_mod_eq_zero hb
  rw [hq] at hl ⊢
  have hq2 : q < 2 ^ (i % 8) := by
    refine Nat.lt_of_mul_lt_mul_left (a := 2 ^ (8 - i % 8)) ?_
    omega
  have : 2 ^ (8 - i % 8) * (q + 1) ≤ 256 := by
    rw [← e2]; exact Nat.mul_le_mul_left _ hq2
  rw [Nat.mul_add, Nat.mul_one] at this
  rcases (show x = 0 ∨ x = 1 by omega) with rfl | rfl <;> omega
theorem Clear.put {out : List Nat} {i n x : Nat} (h : Clear out i n) (hx : x ≤ 1) (hi : i < n) : Clear (putBit out i x) (i + 1) n := by
  have hlt := h.lt hx
  have hb := h.byte
  have hlen : i / 8 < out.length := by rw [h.1]; omega
  refine ⟨by rw [putBit, List.length_set]; exact h.1, fun j => ?_⟩
  by_cases e : i / 8 = j
  · subst e
    rw [putBit, getD_set_self hlen]
    refine ⟨hlt, fun h1 => by omega, fun h1 h2 => ?_⟩
    have e1 : (i + 1) % 8 = i % 8 + 1 := by omega
    have e2 : 8 - i % 8 = (7 - i % 8) + 1 := by omega
    rw [e2, Nat.pow_succ] at hb
    rw [e1, show 8 - (i % 8 + 1) = 7 - i % 8 by omega, Nat.add_mul_mod_self_right]
    exact Nat.mod_eq_zero_of_dvd (Nat.dvd_trans (Nat.dvd_mul_right _ _) (Nat.dvd_of_mod_eq_zero hb))
  · rw [putBit, getD_set_ne e]
    obtain ⟨h0, h1, h2⟩ := h.2 j
    exact ⟨h0, fun hj => h1 (by omega), fun hj hj2 => by omega⟩
theorem Clear.start (n : Nat) : Clear (List.replicate ((n + 7) / 8) 0) 0 n := by
  refine ⟨by simp, fun j => ?_⟩
  have : (List.replicate ((n + 7) / 8) 0).getD j 0 = 0 := by
    rw [List.getD_eq_getElem?_getD, List.getElem?_replicate]; split <;> rfl
  rw [this]
  exact ⟨by omega, fun _ => rfl, fun _ _ => by simp⟩
theorem pow7 (x i : Nat) (hx : x ≤ 1) : x * 2 ^ (7 - i % 8) % 256 = x * 2 ^ (7 - i % 8) := by
  refine Nat.mod_eq_of_lt ?_
  have h : 2 ^ (7 - i % 8) ≤ 2 ^ 7 := Nat.pow_le_pow_right (by omega) (by omega)
  rcases (show x = 0 ∨ x = 1 by omega) with rfl | rfl <;> omega
theorem Pack_l0 (B : List Nat) (hB : B.length ≤ 140737488355328) (hb : ∀ x ∈ B, x ≤ 1) (d : Nat) : ∀ (k i : Nat) (out : List Nat), Clear out i B.length → i + d = B.length → d < k → bitrow_Pack.l0 k (ints out) (ints B) (B.length : Int) (i : Int) = some (ints (packFrom out i (B.drop i)), 0) := by
  induction d with
  | zero =>
    intro k i out hc hi hk
    obtain ⟨k, rfl⟩ : ∃ m, k = m + 1 := ⟨k - 1, by omega⟩
    simp only [bitrow_Pack.l0]
    rw [if_neg (by omega), List.drop_eq_nil_of_le (by omega)]
    rfl
  | succ d ih =>
    intro k i out hc hi hk
    obtain ⟨k, rfl⟩ : ∃ m, k = m + 1 := ⟨k - 1, by omega⟩
    have hlen : i / 8 < out.length := by rw [hc.1]; omega
    have hx := getD_le1 hb i
    have hlt := hc.lt hx
    simp only [bitrow_Pack.l0]
    rw [if_pos (by omega), if_pos (by omega), if_pos (by rw [ints_length]; omega), div8 i (by omega), sub7, if_pos (by omega), if_pos (by rw [ints_length]; omega), if_pos (by omega), rd_ints, rd_ints, shl8 _ _ (by omega), pow7 _ _ hx,
      bor8 _ _ (hc.2 _).1 (by omega), hc.bits hx, set_ints, w64s (by omega), drop_get (by omega)]
    exact ih k (i + 1) _ (hc.put hx (by omega)) (by omega) (by omega)
theorem len7 (n : Nat) (h : n ≤ 140737488355328) : wrap64 (Int.tdiv (wrap64 ((n : Int) + 7)) 8) = (((n + 7) / 8 : Nat) : Int) := by
  rw [w64 (n := (n : Int) + 7) (by omega) (by omega), show (n : Int) + 7 = ((n + 7 : Nat) : Int) by omega, div8 _ (by omega)]
theorem Pack_f (B : List Nat) (hB : B.length ≤ 140737488355328) : Ev (fun k => bitrow_Pack.f k (ints B)) (if vld B = true then (ints (pack B), 0) else ([], 10)) := by
  unfold bitrow_Pack.f
  refine Ev.bind (Valid_f B hB) ?_
  by_cases h : vld B = true
  · rw [if_pos h]
    refine Ev.intro (B.length + 1) fun k hk => ?_
    rw [if_pos h, ints_length, len7 _ hB, if_pos (by omega), Int.toNat_natCast, if_pos (by omega), ← ints_replicate]
    exact Pack_l0 B hB (vld_le h) B.length k 0 _ (Clear.start _) (by omega) (by omega)
  · rw [if_neg h]
    refine Ev.intro 0 fun k hk => ?_
    rw [if_neg h]
theorem RPack_l0 (B : List Nat) (hB : B.length ≤ 140737488355328) (hb : ∀ x ∈ B, x ≤ 1) (d : Nat) : ∀ (k i : Nat) (out : List Nat), Clear out i B.length → i + d = B.length → d < k → outpostref01_Pack.l0 k (ints B) (ints out) (i : Int) = some (ints (packFrom out i (B.drop i)), 0) := by
  induction d with
  | zero =>
    intro k i out hc hi hk
    obtain ⟨k, rfl⟩ : ∃ m, k = m + 1 := ⟨k - 1, by omega⟩
    simp only [outpostref01_Pack.l0]
    rw [ints_length, if_neg (by omega), List.drop_eq_nil_of_le (by omega)]
    rfl
  | succ d ih =>
    intro k i out hc hi hk
    obtain ⟨k, rfl⟩ : ∃ m, k = m + 1 := ⟨k - 1, by omega⟩
    have hlen : i / 8 < out.length := by rw [hc.1]; omega
    have hx := getD_le1 hb i
    have hlt := hc.lt hx
    simp only [outpostref01_Pack.l0]
    rw [ints_length, if_pos (by omega), div8 i (by omega), sub7, if_pos (by omega), if_pos (by rw [ints_length]; omega), if_pos (by omega), wu64 (by omega) (by omega), if_pos (by omega), rd_ints, rd_ints, shl8 _ _ (by omega), pow7 _ _ hx,
      show ((out.getD (i / 8) 0 : Nat) : Int) + ((B.getD i 0 * 2 ^ (7 - i % 8) : Nat) : Int) = ((out.getD (i / 8) 0 + B.getD i 0 * 2 ^ (7 - i % 8) : Nat) : Int) from rfl,
      show (((out.getD (i / 8) 0 + B.getD i 0 * 2 ^ (7 - i % 8) : Nat) : Int) % 256) = ((out.getD (i / 8) 0 + B.getD i 0 * 2 ^ (7 - i % 8) : Nat) : Int) by omega, set_ints, w64s (by omega), drop_get (by omega)]
    exact ih k (i + 1) _ (hc.put hx (by omega)) (by omega) (by omega)
theorem RPack_f (B : List Nat) (hB : B.length ≤ 140737488355328) : Ev (fun k => outpostref01_Pack.f k (ints B)) (if vld B = true then (ints (pack B), 0) else ([], 10)) := by
  unfold outpostref01_Pack.f
  refine Ev.bind (RValid_f B hB) ?_
  by_cases h : vld B = true
  · rw [if_pos h]
    refine Ev.intro (B.length + 1) fun k hk => ?_
    rw [if_pos h, ints_length, len7 _ hB, if_pos (by omega), Int.toNat_natCast, if_pos (by omega), ← ints_replicate]
    exact RPack_l0 B hB (vld_le h) B.length k 0 _ (Clear.start _) (by omega) (by omega)
  · rw [if_neg h]
    refine Ev.intro 0 fun k hk => ?_
    rw [if_neg h]
/-- How many ones. -/
def weight (B : List Nat) : Nat := B.sum
theorem Weight_l0 (B : List Nat) (hB : B.length ≤ 140737488355328) (hb : ∀ x ∈ B, x ≤ 1) (d : Nat) : ∀ (k i n : Nat), n ≤ i → i + d = B.length → d < k → bitrow_Weight.l0 k (n : Int) (ints B) (B.length : Int) (i : Int) = some (((n + weight (B.drop i) : Nat) : Int), 0) := by
  induction d with
  | zero =>
    intro k i n hn hi hk
    obtain ⟨k, rfl⟩ : ∃ m, k = m + 1 := ⟨k - 1, by omega⟩
    simp only [bitrow_Weight.l0]
    rw [if_neg (by omega), List.drop_eq_nil_of_le (by omega)]
    rfl
  | succ d ih =>
    intro k i n hn hi hk
    obtain ⟨k, rfl⟩ : ∃ m, k = m + 1 := ⟨k - 1, by omega⟩
    have hx := getD_le1 hb i
    simp only [bitrow_Weight.l0]
    rw [if_pos (by omega), if_pos (by omega), if_pos (by rw [ints_length]; omega), rd_ints, w64 (n := ((B.getD i 0 : Nat) : Int)) (by omega) (by omega), w64s (by omega), show wrap64 ((n : Int) + ((B.getD i 0 : Nat) : Int)) = ((n + B.getD i 0 : Nat) : Int) by (rw [w64 (by omega) (by omega)]; omega),
      ih k (i + 1) _ (by omega) (by omega) (by omega), drop_get (B := B) (i := i) (by omega), show weight (B.getD i 0 :: B.drop (i + 1)) = B.getD i 0 + weight (B.drop (i + 1)) from by simp [weight], Nat.add_assoc]
theorem Weight_f (B : List Nat) (hB : B.length ≤ 140737488355328) : Ev (fun k => bitrow_Weight.f k (ints B)) (if vld B = true then ((weight B : Int), 0) else (0, 10)) := by
  unfold bitrow_Weight.f
  refine Ev.bind (Valid_f B hB) ?_
  by_cases h : vld B = true
  · rw [if_pos h]
    refine Ev.intro (B.length + 1) fun k hk => ?_
    rw [if_pos h, ints_length]
    have := Weight_l0 B hB (vld_le h) B.length k 0 0 (by omega) (by omega) (by omega)
    rw [List.drop_zero, Nat.zero_add] at this
    exact this
  · rw [if_neg h]
    refine Ev.intro 0 fun k hk => ?_
    rw [if_neg h]
theorem knows_f : Ev (fun k => outpostlaw01_knows.f k) true := by
  unfold outpostlaw01_knows.f
  have h1 : Ev (fun k => bitrow_Pack.f k ([1, 0, 1] : List Int)) ([160], 0) := Pack_f [1, 0, 1] (by decide)
  have h2 : Ev (fun k => bitrow_Weight.f k ([1, 0, 1, 1] : List Int)) (3, 0) := Weight_f [1, 0, 1, 1] (by decide)
  refine Ev.bind h1 (Ev.bind h2 ?_)
  refine Ev.intro 0 fun k hk => ?_
  decide +kernel
/-- Spoilt: all bits of 0x55 turned. -/
theorem Spoil_l0 (d : Nat) : ∀ (B : List Nat) (hB : B.length ≤ 140737488355328) (hb : ∀ x ∈ B, x < 256) (k i : Nat), i + d = B.length → d < k → ∃ C : List Nat, outpostlaw01_Spoil.l0 k (ints B) (i : Int) = some (ints C) := by
  induction d with
  | zero =>
    intro B hB hb k i hi hk
    obtain ⟨k, rfl⟩ : ∃ m, k = m + 1 := ⟨k - 1, by omega⟩
    refine ⟨B, ?_⟩
    simp only [outpostlaw01_Spoil.l0]
    rw [ints_length, if_neg (by omega)]
  | succ d ih =>
    intro B hB hb k i hi hk
    obtain ⟨k, rfl⟩ : ∃ m, k = m + 1 := ⟨k - 1, by omega⟩
    have hx := getD_lt hb i
    obtain ⟨C, hC⟩ := ih (B.set i (B.getD i 0 ^^^ 85)) (by rw [List.length_set]; exact hB) (set_lt hb (Nat.xor_lt_two_pow (n := 8) hx (by decide))) k (i + 1) (by rw [List.length_set]; omega) (by omega)
    refine ⟨C, ?_⟩
    simp only [outpostlaw01_Spoil.l0]
    rw [ints_length, if_pos (by omega), if_pos (by omega), rd_ints, show (85 : Int) = ((85 : Nat) : Int) from rfl, bxor8 _ _ hx (by decide), set_ints, w64s (by omega)]
    exact hC
theorem Spoil_f (B : List Nat) (hB : B.length ≤ 140737488355328) (hb : ∀ x ∈ B, x < 256) : ∃ C : List Nat, Ev (fun k => outpostlaw01_Spoil.f k (ints B)) (ints C) := by
  obtain ⟨C, hC⟩ := Spoil_l0 B.length B hB hb (B.length + 1) 0 (by omega) (by omega)
  exact ⟨C, Ev.of (outpostlaw01_Spoil.mono _) (k := B.length + 1) hC⟩
theorem Lent_f (B : List Nat) (hB : B.length ≤ 140737488351232) : outpostlaw01_Lent.f (ints B) = some (ints B) := by
  unfold outpostlaw01_Lent.f
  rw [if_pos (by rw [ints_length]; omega)]
theorem Stays_f (l : List Int) : outpostlaw01_Stays.f l l = some true := by
  unfold outpostlaw01_Stays.f
  rw [if_pos rfl]
end Go.Proofs.YtgebmeojmenomaaW.Q
