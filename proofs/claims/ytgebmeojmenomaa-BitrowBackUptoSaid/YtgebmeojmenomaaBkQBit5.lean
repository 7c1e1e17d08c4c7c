/- Bits unpacked: what Unpack and the reference's come to. -/
import Derived.Test.YtgebmeojmenomaaBkQBit2
import Derived.Test.YtgebmeojmenomaaBkQEv
set_option linter.unusedVariables false
set_option linter.unusedSimpArgs false
namespace Go.Proofs.YtgebmeojmenomaaW.Q
open Go.RowKit Go.Proofs.YtgebmeojmenomaaW.PrintWords Go.Proofs.YtgebmeojmenomaaW.PrintLast Go.Proofs.YtgebmeojmenomaaW.PrintMore Go.Proofs.Ytgebmeojmenomaa.P
/-- Bit i of packed bytes. -/
def bitAt (B : List Nat) (i : Nat) : Nat := B.getD (i / 8) 0 / 2 ^ (7 - i % 8) % 2
/-- The first n bits of bytes. -/
def unpack (B : List Nat) (n : Nat) : List Nat := (List.range n).map (bitAt B)
theorem unpack_length (B : List Nat) (n : Nat) : (unpack B n).length = n := by simp [unpack]
/-- What Unpack answers. -/
def unp (B : List Nat) (n : Int) : List Int × Int := if n < 0 then ([], 1) else if ((8 * B.length : Nat) : Int) < n then ([], 31) else (ints (unpack B n.toNat), 0)
theorem bit8 {B : List Nat} (hb : ∀ x ∈ B, x < 256) (i : Nat) : Go.bits .and .u8 (shr .u8 ((B.getD (i / 8) 0 : Nat) : Int) ((7 - i % 8 : Nat) : Int)) 1 = ((bitAt B i : Nat) : Int) := by
  have h1 := getD_lt hb (i / 8)
  have h2 : B.getD (i / 8) 0 / 2 ^ (7 - i % 8) ≤ B.getD (i / 8) 0 := Nat.div_le_self _ _
  rw [shr8 _ _ (by omega), show (1 : Int) = ((1 : Nat) : Int) from rfl, band8 _ _ (by omega) (by decide), nat_mask1]
  rfl
theorem Unpack_l0 (B : List Nat) (n : Nat) (hn : n ≤ 8 * B.length) (hB : B.length ≤ 17592186044416) (hb : ∀ x ∈ B, x < 256) (d : Nat) : ∀ (k i : Nat) (out : List Nat), out.length = n → out.take i = (unpack B n).take i → i + d = n → d < k →
    bitrow_Unpack.l0 k (ints B) (ints out) (n : Int) (i : Int) = some (ints (unpack B n), 0) := by
  induction d with
  | zero =>
    intro k i out ho ht hi hk
    obtain ⟨k, rfl⟩ : ∃ m, k = m + 1 := ⟨k - 1, by omega⟩
    simp only [bitrow_Unpack.l0]
    rw [List.take_of_length_le (by omega), List.take_of_length_le (by rw [unpack_length]; omega)] at ht
    rw [if_neg (by omega), ht]
  | succ d ih =>
    intro k i out ho ht hi hk
    obtain ⟨k, rfl⟩ : ∃ m, k = m + 1 := ⟨k - 1, by omega⟩
    simp only [bitrow_Unpack.l0]
    rw [if_pos (by omega), div8 i (by omega), sub7, if_pos (by omega), if_pos (by rw [ints_length]; omega), if_pos (by omega), if_pos (by omega), if_pos (by rw [ints_length]; omega), rd_ints, bit8 hb, set_ints, w64s (by omega)]
    refine ih k (i + 1) _ (by rw [List.length_set]; exact ho) (fill_step (by rw [unpack_length]; omega) (by rw [unpack_length]; exact ho) ht ?_) (by omega) (by omega)
    simp [unpack]
theorem RUnpack_l0 (B : List Nat) (n : Nat) (hn : n ≤ 8 * B.length) (hB : B.length ≤ 17592186044416) (hb : ∀ x ∈ B, x < 256) (d : Nat) : ∀ (k i : Nat) (out : List Nat), out.length = n → out.take i = (unpack B n).take i → i + d = n → d < k →
    outpostref01_Unpack.l0 k (ints B) (n : Int) (ints out) (i : Int) = some (ints (unpack B n), 0) := by
  induction d with
  | zero =>
    intro k i out ho ht hi hk
    obtain ⟨k, rfl⟩ : ∃ m, k = m + 1 := ⟨k - 1, by omega⟩
    simp only [outpostref01_Unpack.l0]
    rw [List.take_of_length_le (by omega), List.take_of_length_le (by rw [unpack_length]; omega)] at ht
    rw [if_neg (by omega), ht]
  | succ d ih =>
    intro k i out ho ht hi hk
    obtain ⟨k, rfl⟩ : ∃ m, k = m + 1 := ⟨k - 1, by omega⟩
    simp only [outpostref01_Unpack.l0]
    rw [if_pos (by omega), div8 i (by omega), sub7, wu64 (by omega) (by omega), if_pos (by omega), if_pos (by rw [ints_length]; omega), if_pos (by omega), if_pos (by omega), if_pos (by rw [ints_length]; omega), rd_ints, bit8 hb, set_ints, w64s (by omega)]
    refine ih k (i + 1) _ (by rw [List.length_set]; exact ho) (fill_step (by rw [unpack_length]; omega) (by rw [unpack_length]; exact ho) ht ?_) (by omega) (by omega)
    simp [unpack]
theorem Unpack_f (B : List Nat) (n : Int) (hB : B.length ≤ 17592186044416) (hb : ∀ x ∈ B, x < 256) (hn : n ≤ 9223372036854775807) : Ev (fun k => bitrow_Unpack.f k (ints B) n) (unp B n) := by
  unfold bitrow_Unpack.f unp
  by_cases h0 : n < 0
  · simp only [if_pos h0]
    exact Ev.now _
  obtain ⟨m, rfl⟩ : ∃ m : Nat, n = (m : Int) := ⟨n.toNat, by omega⟩
  simp only [if_neg h0]
  rw [div8 m (by omega), ints_length, Int.toNat_natCast]
  by_cases h1 : ((m / 8 : Nat) : Int) > (B.length : Int)
  · rw [if_pos (show ((8 * B.length : Nat) : Int) < (m : Int) by omega)]
    simp only [if_pos h1]
    refine Ev.succ ?_
    simp only [bitrow_Unpack.j0, if_true]
    exact Ev.now _
  · simp only [if_neg h1]
    rw [w64 (n := (m : Int) + 7) (by omega) (by omega), show (m : Int) + 7 = ((m + 7 : Nat) : Int) by omega, div8 _ (by omega)]
    by_cases h2 : 8 * B.length < m
    · rw [if_pos (by omega), decide_eq_true (by omega)]
      refine Ev.succ ?_
      simp only [bitrow_Unpack.j0, if_true]
      exact Ev.now _
    · rw [if_neg (by omega), decide_eq_false (by omega)]
      refine Ev.intro (m + 2) fun k hk => ?_
      obtain ⟨k, rfl⟩ : ∃ q, k = q + 1 := ⟨k - 1, by omega⟩
      simp only [bitrow_Unpack.j0, Bool.false_eq_true, if_false]
      rw [if_pos (by omega), Int.toNat_natCast, if_pos (by omega), ← ints_replicate]
      exact Unpack_l0 B m (by omega) hB hb m k 0 _ (by simp) (by simp) (by omega) (by omega)
theorem RUnpack_f (B : List Nat) (n : Int) (hB : B.length ≤ 17592186044416) (hb : ∀ x ∈ B, x < 256) (hn : n ≤ 9223372036854775807) : Ev (fun k => outpostref01_Unpack.f k (ints B) n) (unp B n) := by
  unfold outpostref01_Unpack.f unp
  by_cases h0 : n < 0
  · simp only [if_pos h0]
    exact Ev.now _
  obtain ⟨m, rfl⟩ : ∃ m : Nat, n = (m : Int) := ⟨n.toNat, by omega⟩
  simp only [if_neg h0]
  rw [div8 m (by omega), ints_length, Int.toNat_natCast]
  by_cases h1 : ((m / 8 : Nat) : Int) > (B.length : Int)
  · rw [if_pos (show ((8 * B.length : Nat) : Int) < (m : Int) by omega)]
    simp only [if_pos h1]
    refine Ev.succ ?_
    simp only [outpostref01_Unpack.j0, if_true]
    exact Ev.now _
  · simp only [if_neg h1]
    rw [w64 (n := 8 * (B.length : Int)) (by omega) (by omega)]
    by_cases h2 : 8 * B.length < m
    · rw [if_pos (by omega), decide_eq_true (by omega)]
      refine Ev.succ ?_
      simp only [outpostref01_Unpack.j0, if_true]
      exact Ev.now _
    · rw [if_neg (by omega), decide_eq_false (by omega)]
      refine Ev.intro (m + 2) fun k hk => ?_
      obtain ⟨k, rfl⟩ : ∃ q, k = q + 1 := ⟨k - 1, by omega⟩
      simp only [outpostref01_Unpack.j0, Bool.false_eq_true, if_false]
      rw [if_pos (by omega), Int.toNat_natCast, if_pos (by omega), ← ints_replicate]
      exact RUnpack_l0 B m (by omega) hB hb m k 0 _ (by simp) (by simp) (by omega) (by omega)
end Go.Proofs.YtgebmeojmenomaaW.Q
