/- Bits of rows for layer frame: Valid, Pack, Unpack, there and back (written by gen_qfbit.py out of the words of layer bitrow). -/
import Derived.Test.YtaoeehnnboegnaaFpQBase
import Derived.Test.YtaoeehnnboegnaaFpQEv
import Derived.Test.YtaoeehnnboegnaaFpPx8
import Derived.Test.YtaoeehnnboegnaaFpPx8
import Derived.Test.YtaoeehnnboegnaaFpPx3
set_option linter.unusedVariables false
set_option linter.unusedSimpArgs false
namespace Go.Proofs.YtaoeehnnboegnaaW.Q
open Go.RowKit Go.Proofs.YtaoeehnnboegnaaW.PrintWords Go.Proofs.YtaoeehnnboegnaaW.PrintLast Go.Proofs.YtaoeehnnboegnaaW.PrintMore Go.Proofs.Ytaoeehnnboegnaa.P
/-- Is each one 0 or 1? -/
def vld (B : List Nat) : Bool := B.all fun x => decide (x ≤ 1)
theorem vld_le {B : List Nat} (h : vld B = true) : ∀ x ∈ B, x ≤ 1 := by
  intro x hx
  have := List.all_eq_true.1 h x hx
  simpa using this
theorem vld_cons (a : Nat) (B : List Nat) : vld (a :: B) = (decide (a ≤ 1) && vld B) := rfl
theorem Valid_l0 (B : List Nat) (hB : B.length ≤ 140737488355328) (d : Nat) : ∀ (k i : Nat), i + d = B.length → d < k → bitrow_Valid.l0 k (ints B) (B.length : Int) (i : Int) = some (vld (B.drop i)) := by
  induction d with
  | zero =>
    intro k i hi hk
    obtain ⟨k, rfl⟩ : ∃ m, k = m + 1 := ⟨k - 1, by omega⟩
    simp only [bitrow_Valid.l0]
    rw [if_neg (by omega), List.drop_eq_nil_of_le (by omega)]
    rfl
  | succ d ih =>
    intro k i hi hk
    obtain ⟨k, rfl⟩ : ∃ m, k = m + 1 := ⟨k - 1, by omega⟩
    simp only [bitrow_Valid.l0]
    rw [if_pos (by omega), if_pos (by omega), if_pos (by rw [ints_length]; omega), rd_ints, drop_get (by omega), vld_cons]
    by_cases h : B.getD i 0 ≤ 1
    · rw [if_neg (by omega), w64s (by omega), ih k (i + 1) (by omega) (by omega), decide_eq_true h]
      rfl
    · rw [if_pos (by omega), decide_eq_false h]
      rfl
theorem Valid_f (B : List Nat) (hB : B.length ≤ 140737488355328) : Ev (fun k => bitrow_Valid.f k (ints B)) (vld B) :=
  Ev.intro (B.length + 1) fun k hk => by
    unfold bitrow_Valid.f
    rw [ints_length]
    exact Valid_l0 B hB B.length k 0 (by omega) (by omega)
/-- One more bit packed: bit i is laid into its byte. -/
def putBit (out : List Nat) (i x : Nat) : List Nat := out.set (i / 8) (out.getD (i / 8) 0 + x * 2 ^ (7 - i % 8))
/-- Bits from place i on, packed. -/
def packFrom (out : List Nat) (i : Nat) : List Nat → List Nat
  | [] => out
  | x :: B => packFrom (putBit out i x) (i + 1) B
def pack (B : List Nat) : List Nat := packFrom (List.replicate ((B.length + 7) / 8) 0) 0 B
/-- From bit i on nothing is laid yet. -/
def Clear (out : List Nat) (i n : Nat) : Prop := out.length = (n + 7) / 8 ∧ ∀ j, out.getD j 0 < 256 ∧ (i ≤ 8 * j → out.getD j 0 = 0) ∧ (8 * j < i → i < 8 * j + 8 → out.getD j 0 % 2 ^ (8 - i % 8) = 0)
theorem pow_le8 {m : Nat} (h : m ≤ 8) : 2 ^ m ≤ 256 := by
  calc 2 ^ m ≤ 2 ^ 8 := Nat.pow_le_pow_right (by omega) h
    _ = 256 := rfl
theorem getD_set_self {B : List Nat} {i v : Nat} (h : i < B.length) : (B.set i v).getD i 0 = v := by
  rw [List.getD_eq_getElem?_getD, List.getElem?_set_self h]; rfl
theorem getD_set_ne {B : List Nat} {i j v : Nat} (h : i ≠ j) : (B.set i v).getD j 0 = B.getD j 0 := by
  rw [List.getD_eq_getElem?_getD, List.getElem?_set_ne h, ← List.getD_eq_getElem?_getD]
theorem Clear.byte {out : List Nat} {i n : Nat} (h : Clear out i n) : out.getD (i / 8) 0 % 2 ^ (8 - i % 8) = 0 := by
  obtain ⟨_, h⟩ := h
  obtain ⟨_, h1, h2⟩ := h (i / 8)
  by_cases e : i % 8 = 0
  · rw [h1 (by omega)]; simp
  · exact h2 (by omega) (by omega)
theorem Clear.bits {out : List Nat} {i n x : Nat} (h : Clear out i n) (hx : x ≤ 1) : out.getD (i / 8) 0 ||| (x * 2 ^ (7 - i % 8)) = out.getD (i / 8) 0 + x * 2 ^ (7 - i % 8) := by
  refine nat_join (8 - i % 8) _ _ h.byte ?_
  have : 2 ^ (8 - i % 8) = 2 * 2 ^ (7 - i % 8) := by
    rw [show 8 - i % 8 = (7 - i % 8) + 1 by omega, Nat.pow_succ]; omega
  have hp : 0 < 2 ^ (7 - i % 8) := Nat.pow_pos (by omega)
  rw [this]
  rcases (show x = 0 ∨ x = 1 by omega) with rfl | rfl <;> omega
theorem Clear.lt {out : List Nat} {i n x : Nat} (h : Clear out i n) (hx : x ≤ 1) : out.getD (i / 8) 0 + x * 2 ^ (7 - i % 8) < 256 := by
  have hb := h.byte
  have hl := (h.2 (i / 8)).1
  have hp : 0 < 2 ^ (7 - i % 8) := Nat.pow_pos (by omega)
  have e : 2 ^ (8 - i % 8) = 2 * 2 ^ (7 - i % 8) := by
    rw [show 8 - i % 8 = (7 - i % 8) + 1 by omega, Nat.pow_succ]; omega
  have e2 : 2 ^ (8 - i % 8) * 2 ^ (i % 8) = 256 := by rw [← Nat.pow_add, show 8 - i % 8 + i % 8 = 8 by omega]
  obtain ⟨q, hq⟩ := Nat.dvd_of_mod_eq_zero hb
  rw [hq] at hl ⊢
  have hq2 : q < 2 ^ (i % 8) := by
    refine Nat.lt_of_mul_lt_mul_left (a := 2 ^ (8 - i % 8)) ?_
    omega
  have : 2 ^ (8 - i % 8) * (q + 1) ≤ 256 := by
    rw [← e2]; exact Nat.mul_le_mul_left _ hq2
  rw [Nat.mul_add, Nat.mul_one] at this
  rcases (show x = 0 ∨ x = 1 by omega) with rfl | rfl <;> omega
theorem Clear.put {out : List Nat} {i n x : Nat} (h : Clear out i n) (hx : x ≤ 1) (hi : i < n) : Clear (putBit out i x) (i + 1) n := by
  have hlt := h.lt hx
  have hb := h.byte
  have hlen : i / 8 < out.length := by rw [h.1]; omega
  refine ⟨by rw [putBit, List.length_set]; exact h.1, fun j => ?_⟩
  by_cases e : i / 8 = j
  · subst e
    rw [putBit, getD_set_self hlen]
    refine ⟨hlt, fun h1 => by omega, fun h1 h2 => ?_⟩
    have e1 : (i + 1) % 8 = i % 8 + 1 := by omega
    have e2 : 8 - i % 8 = (7 - i % 8) + 1 := by omega
    rw [e2, Nat.pow_succ] at hb
    rw [e1, show 8 - (i % 8 + 1) = 7 - i % 8 by omega, Nat.add_mul_mod_self_right]
    exact Nat.mod_eq_zero_of_dvd (Nat.dvd_trans (Nat.dvd_mul_right _ _) (Nat.dvd_of_mod_eq_zero hb))
  · rw [putBit, getD_set_ne e]
    obtain ⟨h0, h1, h2⟩ := h.2 j
    exact ⟨h0, fun hj => h1 (by omega), fun hj hj2 => by omega⟩
theorem Clear.start (n : Nat) : Clear (List.replicate ((n + 7) / 8) 0) 0 n := by
  refine ⟨by simp, fun j => ?_⟩
  have : (List.replicate ((n + 7) / 8) 0).getD j 0 = 0 := by
    rw [List.getD_eq_getElem?_getD, List.getElem?_replicate]; split <;> rfl
  rw [this]
  exact ⟨by omega, fun _ => rfl, fun _ _ => by simp⟩
theorem pow7 (x i : Nat) (hx : x ≤ 1) : x * 2 ^ (7 - i % 8) % 256 = x * 2 ^ (7 - i % 8) := by
  refine Nat.mod_eq_of_lt ?_
  have h : 2 ^ (7 - i % 8) ≤ 2 ^ 7 := Nat.pow_le_pow_right (by omega) (by omega)
  rcases (show x = 0 ∨ x = 1 by omega) with rfl | rfl <;> omega
theorem Pack_l0 (B : List Nat) (hB : B.length ≤ 140737488355328) (hb : ∀ x ∈ B, x ≤ 1) (d : Nat) : ∀ (k i : Nat) (out : List Nat), Clear out i B.length → i + d = B.length → d < k → bitrow_Pack.l0 k (ints out) (ints B) (B.length : Int) (i : Int) = some (ints (packFrom out i (B.drop i)), 0) := by
  induction d with
  | zero =>
    intro k i out hc hi hk
    obtain ⟨k, rfl⟩ : ∃ m, k = m + 1 := ⟨k - 1, by omega⟩
    simp only [bitrow_Pack.l0]
    rw [if_neg (by omega), List.drop_eq_nil_of_le (by omega)]
    rfl
  | succ d ih =>
    intro k i out hc hi hk
    obtain ⟨k, rfl⟩ : ∃ m, k = m + 1 := ⟨k - 1, by omega⟩
    have hlen : i / 8 < out.length := by rw [hc.1]; omega
    have hx := getD_le1 hb i
    have hlt := hc.lt hx
    simp only [bitrow_Pack.l0]
    rw [if_pos (by omega), if_pos (by omega), if_pos (by rw [ints_length]; omega), div8 i (by omega), sub7, if_pos (by omega), if_pos (by rw [ints_length]; omega), if_pos (by omega), rd_ints, rd_ints, shl8 _ _ (by omega), pow7 _ _ hx,
      bor8 _ _ (hc.2 _).1 (by omega), hc.bits hx, set_ints, w64s (by omega), drop_get (by omega)]
    exact ih k (i + 1) _ (hc.put hx (by omega)) (by omega) (by omega)
theorem len7 (n : Nat) (h : n ≤ 140737488355328) : wrap64 (Int.tdiv (wrap64 ((n : Int) + 7)) 8) = (((n + 7) / 8 : Nat) : Int) := by
  rw [w64 (n := (n : Int) + 7) (by omega) (by omega), show (n : Int) + 7 = ((n + 7 : Nat) : Int) by omega, div8 _ (by omega)]
theorem Pack_f (B : List Nat) (hB : B.length ≤ 140737488355328) : Ev (fun k => bitrow_Pack.f k (ints B)) (if vld B = true then (ints (pack B), 0) else ([], 10)) := by
  unfold bitrow_Pack.f
  refine Ev.bind (Valid_f B hB) ?_
  by_cases h : vld B = true
  · rw [if_pos h]
    refine Ev.intro (B.length + 1) fun k hk => ?_
    rw [if_pos h, ints_length, len7 _ hB, if_pos (by omega), Int.toNat_natCast, if_pos (by omega), ← ints_replicate]
    exact Pack_l0 B hB (vld_le h) B.length k 0 _ (Clear.start _) (by omega) (by omega)
  · rw [if_neg h]
    refine Ev.intro 0 fun k hk => ?_
    rw [if_neg h]
/-- A row that is filled place by place. -/
theorem fill_step {L out : List Nat} {i v : Nat} (hi : i < L.length) (hl : out.length = L.length) (h : out.take i = L.take i) (hv : L[i] = v) : (out.set i v).take (i + 1) = L.take (i + 1) := by
  rw [List.take_succ_eq_append_getElem (by rw [List.length_set]; omega), List.take_succ_eq_append_getElem hi, List.getElem_set_self, List.take_set_of_le (Nat.le_refl _), h, hv]
theorem bit_lt {a : Nat} (h : a ≤ 1) : a < 256 := by omega
/-- Bit i of packed bytes. -/
def bitAt (B : List Nat) (i : Nat) : Nat := B.getD (i / 8) 0 / 2 ^ (7 - i % 8) % 2
/-- The first n bits of bytes. -/
def unpack (B : List Nat) (n : Nat) : List Nat := (List.range n).map (bitAt B)
theorem unpack_length (B : List Nat) (n : Nat) : (unpack B n).length = n := by simp [unpack]
/-- What Unpack answers. -/
def unp (B : List Nat) (n : Int) : List Int × Int := if n < 0 then ([], 1) else if ((8 * B.length : Nat) : Int) < n then ([], 31) else (ints (unpack B n.toNat), 0)
theorem bit8 {B : List Nat} (hb : ∀ x ∈ B, x < 256) (i : Nat) : Go.bits .and .u8 (shr .u8 ((B.getD (i / 8) 0 : Nat) : Int) ((7 - i % 8 : Nat) : Int)) 1 = ((bitAt B i : Nat) : Int) := by
  have h1 := getD_lt hb (i / 8)
  have h2 : B.getD (i / 8) 0 / 2 ^ (7 - i % 8) ≤ B.getD (i / 8) 0 := Nat.div_le_self _ _
  rw [shr8 _ _ (by omega), show (1 : Int) = ((1 : Nat) : Int) from rfl, band8 _ _ (by omega) (by decide), nat_mask1]
  rfl
theorem Unpack_l0 (B : List Nat) (n : Nat) (hn : n ≤ 8 * B.length) (hB : B.length ≤ 17592186044416) (hb : ∀ x ∈ B, x < 256) (d : Nat) : ∀ (k i : Nat) (out : List Nat), out.length = n → out.take i = (unpack B n).take i → i + d = n → d < k →
    bitrow_Unpack.l0 k (ints B) (ints out) (n : Int) (i : Int) = some (ints (unpack B n), 0) := by
  induction d with
  | zero =>
    intro k i out ho ht hi hk
    obtain ⟨k, rfl⟩ : ∃ m, k = m + 1 := ⟨k - 1, by omega⟩
    simp only [bitrow_Unpack.l0]
    rw [List.take_of_length_le (by omega), List.take_of_length_le (by rw [unpack_length]; omega)] at ht
    rw [if_neg (by omega), ht]
  | succ d ih =>
    intro k i out ho ht hi hk
    obtain ⟨k, rfl⟩ : ∃ m, k = m + 1 := ⟨k - 1, by omega⟩
    simp only [bitrow_Unpack.l0]
    rw [if_pos (by omega), div8 i (by omega), sub7, if_pos (by omega), if_pos (by rw [ints_length]; omega), if_pos (by omega), if_pos (by omega), if_pos (by rw [ints_length]; omega), rd_ints, bit8 hb, set_ints, w64s (by omega)]
    refine ih k (i + 1) _ (by rw [List.length_set]; exact ho) (fill_step (by rw [unpack_length]; omega) (by rw [unpack_length]; exact ho) ht ?_) (by omega) (by omega)
    simp [unpack]
theorem Unpack_f (B : List Nat) (n : Int) (hB : B.length ≤ 17592186044416) (hb : ∀ x ∈ B, x < 256) (hn : n ≤ 9223372036854775807) : Ev (fun k => bitrow_Unpack.f k (ints B) n) (unp B n) := by
  unfold bitrow_Unpack.f unp
  by_cases h0 : n < 0
  · simp only [if_pos h0]
    exact Ev.now _
  obtain ⟨m, rfl⟩ : ∃ m : Nat, n = (m : Int) := ⟨n.toNat, by omega⟩
  simp only [if_neg h0]
  rw [div8 m (by omega), ints_length, Int.toNat_natCast]
  by_cases h1 : ((m / 8 : Nat) : Int) > (B.length : Int)
  · rw [if_pos (show ((8 * B.length : Nat) : Int) < (m : Int) by omega)]
    simp only [if_pos h1]
    refine Ev.succ ?_
    simp only [bitrow_Unpack.j0, if_true]
    exact Ev.now _
  · simp only [if_neg h1]
    rw [w64 (n := (m : Int) + 7) (by omega) (by omega), show (m : Int) + 7 = ((m + 7 : Nat) : Int) by omega, div8 _ (by omega)]
    by_cases h2 : 8 * B.length < m
    · rw [if_pos (by omega), decide_eq_true (by omega)]
      refine Ev.succ ?_
      simp only [bitrow_Unpack.j0, if_true]
      exact Ev.now _
    · rw [if_neg (by omega), decide_eq_false (by omega)]
      refine Ev.intro (m + 2) fun k hk => ?_
      obtain ⟨k, rfl⟩ : ∃ q, k = q + 1 := ⟨k - 1, by omega⟩
      simp only [bitrow_Unpack.j0, Bool.false_eq_true, if_false]
      rw [if_pos (by omega), Int.toNat_natCast, if_pos (by omega), ← ints_replicate]
      exact Unpack_l0 B m (by omega) hB hb m k 0 _ (by simp) (by simp) (by omega) (by omega)
theorem putBit_length (out : List Nat) (i x : Nat) : (putBit out i x).length = out.length := by simp [putBit]
theorem putBit_bit {out : List Nat} {i n x p : Nat} (h : Clear out i n) (hx : x ≤ 1) (hi : i < n) (hp : p ≤ i) : bitAt (putBit out i x) p = if p = i then x else bitAt out p := by
  have hlen : i / 8 < out.length := by rw [h.1]; omega
  have hb := h.byte
  unfold bitAt
  by_cases e : i / 8 = p / 8
  · rw [← e, putBit, getD_set_self hlen]
    obtain ⟨q, hq⟩ := Nat.dvd_of_mod_eq_zero hb
    rw [hq]
    have e1 : 8 - i % 8 = (7 - i % 8) + 1 := by omega
    have hpos : 0 < 2 ^ (7 - i % 8) := Nat.pow_pos (by omega)
    by_cases hpi : p = i
    · subst hpi
      rw [if_pos rfl, e1, Nat.pow_succ, Nat.mul_assoc, Nat.mul_comm x, ← Nat.mul_add, Nat.mul_div_cancel_left _ hpos]
      omega
    · rw [if_neg hpi]
      obtain ⟨r, hr⟩ : ∃ r, 7 - p % 8 = (8 - i % 8) + r := ⟨7 - p % 8 - (8 - i % 8), by omega⟩
      have hpos2 : 0 < 2 ^ (8 - i % 8) := Nat.pow_pos (by omega)
      have hlt : x * 2 ^ (7 - i % 8) < 2 ^ (8 - i % 8) := by
        rw [e1, Nat.pow_succ]
        rcases (show x = 0 ∨ x = 1 by omega) with rfl | rfl <;> omega
      have key : (2 ^ (8 - i % 8) * q + x * 2 ^ (7 - i % 8)) / 2 ^ (8 - i % 8) = q := by rw [Nat.mul_add_div hpos2, Nat.div_eq_of_lt hlt, Nat.add_zero]
      rw [hr, Nat.pow_add, ← Nat.div_div_eq_div_mul, ← Nat.div_div_eq_div_mul, key, Nat.mul_div_cancel_left _ hpos2]
  · rw [putBit, getD_set_ne e, if_neg (fun h => e (by rw [h]))]
theorem packFrom_bit (B : List Nat) (hb : ∀ x ∈ B, x ≤ 1) : ∀ (out : List Nat) (i n p : Nat), Clear out i n → i + B.length = n → p < n → bitAt (packFrom out i B) p = if p < i then bitAt out p else B.getD (p - i) 0 := by
  induction B with
  | nil =>
    intro out i n p h hn hp
    rw [packFrom, if_pos (by simp at hn; omega)]
  | cons x B ih =>
    intro out i n p h hn hp
    have hx := hb x List.mem_cons_self
    have hn' : i + 1 + B.length = n := by simp at hn; omega
    have hin : i < n := by omega
    rw [packFrom, ih (fun y hy => hb y (List.mem_cons_of_mem _ hy)) (putBit out i x) (i + 1) n p (h.put hx hin) hn' hp]
    by_cases h1 : p < i + 1
    · rw [if_pos h1, putBit_bit h hx hin (by omega)]
      by_cases h2 : p = i
      · subst h2
        rw [if_pos rfl, if_neg (by omega), Nat.sub_self]
        rfl
      · rw [if_neg h2, if_pos (by omega)]
    · rw [if_neg h1, if_neg (by omega), show p - i = (p - (i + 1)) + 1 by omega]
      rfl
theorem packFrom_len (B : List Nat) : ∀ (out : List Nat) (i : Nat), (packFrom out i B).length = out.length := by
  induction B with
  | nil => intro out i; rfl
  | cons x B ih => intro out i; rw [packFrom, ih, putBit_length]
theorem pack_len (B : List Nat) : (pack B).length = (B.length + 7) / 8 := by rw [pack, packFrom_len, List.length_replicate]
theorem packFrom_lt (B : List Nat) (hb : ∀ x ∈ B, x ≤ 1) : ∀ (out : List Nat) (i n : Nat), Clear out i n → i + B.length = n → ∀ j, (packFrom out i B).getD j 0 < 256 := by
  induction B with
  | nil => intro out i n h hn j; exact (h.2 j).1
  | cons x B ih =>
    intro out i n h hn j
    have hx := hb x List.mem_cons_self
    exact ih (fun y hy => hb y (List.mem_cons_of_mem _ hy)) _ _ n (h.put hx (by simp at hn; omega)) (by simp at hn; omega) j
theorem pack_lt {B : List Nat} (hb : ∀ x ∈ B, x ≤ 1) : ∀ x ∈ pack B, x < 256 := by
  intro x hx
  obtain ⟨j, hj, rfl⟩ := List.getElem_of_mem hx
  have := packFrom_lt B hb _ 0 B.length (Clear.start _) (by omega) j
  rw [show packFrom (List.replicate ((B.length + 7) / 8) 0) 0 B = pack B from rfl, List.getD_eq_getElem?_getD, List.getElem?_eq_getElem hj] at this
  exact this
theorem pack_bit {B : List Nat} (hb : ∀ x ∈ B, x ≤ 1) {p : Nat} (hp : p < B.length) : bitAt (pack B) p = B.getD p 0 := by
  rw [pack, packFrom_bit B hb _ 0 B.length p (Clear.start _) (by omega) hp, if_neg (by omega), Nat.sub_zero]
theorem getD_ext {A B : List Nat} (hl : A.length = B.length) (h : ∀ i, i < A.length → A.getD i 0 = B.getD i 0) : A = B := by
  refine List.ext_getElem hl fun i h1 h2 => ?_
  have := h i h1
  rwa [List.getD_eq_getElem?_getD, List.getD_eq_getElem?_getD, List.getElem?_eq_getElem h1, List.getElem?_eq_getElem h2] at this
theorem unpack_getD {B : List Nat} {n i : Nat} (h : i < n) : (unpack B n).getD i 0 = bitAt B i := by
  simp [unpack, List.getD_eq_getElem?_getD, h]
theorem unpack_pack {B : List Nat} (hb : ∀ x ∈ B, x ≤ 1) : unpack (pack B) B.length = B := by
  refine getD_ext (unpack_length _ _) fun i hi => ?_
  rw [unpack_length] at hi
  rw [unpack_getD hi, pack_bit hb hi]
theorem bitAt_le (B : List Nat) (i : Nat) : bitAt B i ≤ 1 := by unfold bitAt; omega
theorem unpack_le (B : List Nat) (n : Nat) : ∀ x ∈ unpack B n, x ≤ 1 := by
  intro x hx
  obtain ⟨i, _, rfl⟩ := List.mem_map.1 hx
  exact bitAt_le B i
theorem byte_ext {a b : Nat} (ha : a < 256) (hb : b < 256) (h : ∀ t, t < 8 → a / 2 ^ t % 2 = b / 2 ^ t % 2) : a = b := by
  refine Nat.eq_of_testBit_eq fun i => ?_
  by_cases hi : i < 8
  · rw [Nat.testBit_eq_decide_div_mod_eq, Nat.testBit_eq_decide_div_mod_eq, h i hi]
  · have e : 256 ≤ 2 ^ i := by
      calc 256 = 2 ^ 8 := rfl
        _ ≤ 2 ^ i := Nat.pow_le_pow_right (by omega) (by omega)
    rw [Nat.testBit_lt_two_pow (Nat.lt_of_lt_of_le ha e), Nat.testBit_lt_two_pow (Nat.lt_of_lt_of_le hb e)]
theorem pack_unpack {X : List Nat} (hX : ∀ x ∈ X, x < 256) : pack (unpack X (8 * X.length)) = X := by
  have hle := unpack_le X (8 * X.length)
  have hl : (pack (unpack X (8 * X.length))).length = X.length := by rw [pack_len, unpack_length]; omega
  refine getD_ext hl fun j hj => ?_
  rw [hl] at hj
  refine byte_ext (getD_lt (pack_lt hle) j) (getD_lt hX j) fun t ht => ?_
  have h1 := pack_bit hle (p := 8 * j + (7 - t)) (by rw [unpack_length]; omega)
  rw [unpack_getD (by omega)] at h1
  unfold bitAt at h1
  rw [show (8 * j + (7 - t)) / 8 = j by omega, show 7 - (8 * j + (7 - t)) % 8 = t by omega] at h1
  exact h1
theorem vld_le1 {B : List Nat} (h : ∀ x ∈ B, x ≤ 1) : vld B = true := by
  unfold vld
  rw [List.all_eq_true]
  intro x hx
  simpa using h x hx
end Go.Proofs.YtaoeehnnboegnaaW.Q
