/- Bits of rows for layer frame, the document's: Valid, Pack, Unpack, there and back (written by gen_qfbit.py out of the words of layer bitrow). -/
import Derived.Test.YtaoeehnnboegnaaFpQFBit
import Derived.Test.YtaoeehnnboegnaaFpPx13
import Derived.Test.YtaoeehnnboegnaaFpPx13
import Derived.Test.YtaoeehnnboegnaaFpPx7
set_option linter.unusedVariables false
set_option linter.unusedSimpArgs false
namespace Go.Proofs.YtaoeehnnboegnaaW.Q
open Go.RowKit Go.Proofs.YtaoeehnnboegnaaW.PrintWords Go.Proofs.YtaoeehnnboegnaaW.PrintLast Go.Proofs.YtaoeehnnboegnaaW.PrintMore Go.Proofs.Ytaoeehnnboegnaa.P
theorem RValid_l0 (B : List Nat) (hB : B.length ≤ 140737488355328) (d : Nat) : ∀ (k i : Nat), i + d = B.length → d < k → outpostref01_Valid.l0 k (ints B) (i : Int) = some (vld (B.drop i)) := by
  induction d with
  | zero =>
    intro k i hi hk
    obtain ⟨k, rfl⟩ : ∃ m, k = m + 1 := ⟨k - 1, by omega⟩
    simp only [outpostref01_Valid.l0]
    rw [ints_length, if_neg (by omega), List.drop_eq_nil_of_le (by omega)]
    rfl
  | succ d ih =>
    intro k i hi hk
    obtain ⟨k, rfl⟩ : ∃ m, k = m + 1 := ⟨k - 1, by omega⟩
    simp only [outpostref01_Valid.l0]
    rw [ints_length, if_pos (by omega), if_pos (by omega), rd_ints, drop_get (by omega), vld_cons, w64s (by omega), ih k (i + 1) (by omega) (by omega)]
    by_cases h0 : B.getD i 0 = 0
    · rw [if_pos (by omega), h0]
      rfl
    · rw [if_neg (by omega)]
      by_cases h1 : B.getD i 0 = 1
      · rw [if_pos (by omega), h1]
        rfl
      · rw [if_neg (by omega), decide_eq_false (by omega)]
        rfl
theorem RValid_f (B : List Nat) (hB : B.length ≤ 140737488355328) : Ev (fun k => outpostref01_Valid.f k (ints B)) (vld B) :=
  Ev.intro (B.length + 1) fun k hk => RValid_l0 B hB B.length k 0 (by omega) (by omega)
theorem RPack_l0 (B : List Nat) (hB : B.length ≤ 140737488355328) (hb : ∀ x ∈ B, x ≤ 1) (d : Nat) : ∀ (k i : Nat) (out : List Nat), Clear out i B.length → i + d = B.length → d < k → outpostref01_Pack.l0 k (ints B) (ints out) (i : Int) = some (ints (packFrom out i (B.drop i)), 0) := by
  induction d with
  | zero =>
    intro k i out hc hi hk
    obtain ⟨k, rfl⟩ : ∃ m, k = m + 1 := ⟨k - 1, by omega⟩
    simp only [outpostref01_Pack.l0]
    rw [ints_length, if_neg (by omega), List.drop_eq_nil_of_le (by omega)]
    rfl
  | succ d ih =>
    intro k i out hc hi hk
    obtain ⟨k, rfl⟩ : ∃ m, k = m + 1 := ⟨k - 1, by omega⟩
    have hlen : i / 8 < out.length := by rw [hc.1]; omega
    have hx := getD_le1 hb i
    have hlt := hc.lt hx
    simp only [outpostref01_Pack.l0]
    rw [ints_length, if_pos (by omega), div8 i (by omega), sub7, if_pos (by omega), if_pos (by rw [ints_length]; omega), if_pos (by omega), wu64 (by omega) (by omega), if_pos (by omega), rd_ints, rd_ints, shl8 _ _ (by omega), pow7 _ _ hx,
      show ((out.getD (i / 8) 0 : Nat) : Int) + ((B.getD i 0 * 2 ^ (7 - i % 8) : Nat) : Int) = ((out.getD (i / 8) 0 + B.getD i 0 * 2 ^ (7 - i % 8) : Nat) : Int) from rfl,
      show (((out.getD (i / 8) 0 + B.getD i 0 * 2 ^ (7 - i % 8) : Nat) : Int) % 256) = ((out.getD (i / 8) 0 + B.getD i 0 * 2 ^ (7 - i % 8) : Nat) : Int) by omega, set_ints, w64s (by omega), drop_get (by omega)]
    exact ih k (i + 1) _ (hc.put hx (by omega)) (by omega) (by omega)
theorem RPack_f (B : List Nat) (hB : B.length ≤ 140737488355328) : Ev (fun k => outpostref01_Pack.f k (ints B)) (if vld B = true then (ints (pack B), 0) else ([], 10)) := by
  unfold outpostref01_Pack.f
  refine Ev.bind (RValid_f B hB) ?_
  by_cases h : vld B = true
  · rw [if_pos h]
    refine Ev.intro (B.length + 1) fun k hk => ?_
    rw [if_pos h, ints_length, len7 _ hB, if_pos (by omega), Int.toNat_natCast, if_pos (by omega), ← ints_replicate]
    exact RPack_l0 B hB (vld_le h) B.length k 0 _ (Clear.start _) (by omega) (by omega)
  · rw [if_neg h]
    refine Ev.intro 0 fun k hk => ?_
    rw [if_neg h]
theorem RUnpack_l0 (B : List Nat) (n : Nat) (hn : n ≤ 8 * B.length) (hB : B.length ≤ 17592186044416) (hb : ∀ x ∈ B, x < 256) (d : Nat) : ∀ (k i : Nat) (out : List Nat), out.length = n → out.take i = (unpack B n).take i → i + d = n → d < k →
    outpostref01_Unpack.l0 k (ints B) (n : Int) (ints out) (i : Int) = some (ints (unpack B n), 0) := by
  induction d with
  | zero =>
    intro k i out ho ht hi hk
    obtain ⟨k, rfl⟩ : ∃ m, k = m + 1 := ⟨k - 1, by omega⟩
    simp only [outpostref01_Unpack.l0]
    rw [List.take_of_length_le (by omega), List.take_of_length_le (by rw [unpack_length]; omega)] at ht
    rw [if_neg (by omega), ht]
  | succ d ih =>
    intro k i out ho ht hi hk
    obtain ⟨k, rfl⟩ : ∃ m, k = m + 1 := ⟨k - 1, by omega⟩
    simp only [outpostref01_Unpack.l0]
    rw [if_pos (by omega), div8 i (by omega), sub7, wu64 (by omega) (by omega), if_pos (by omega), if_pos (by rw [ints_length]; omega), if_pos (by omega), if_pos (by omega), if_pos (by rw [ints_length]; omega), rd_ints, bit8 hb, set_ints, w64s (by omega)]
    refine ih k (i + 1) _ (by rw [List.length_set]; exact ho) (fill_step (by rw [unpack_length]; omega) (by rw [unpack_length]; exact ho) ht ?_) (by omega) (by omega)
    simp [unpack]
theorem RUnpack_f (B : List Nat) (n : Int) (hB : B.length ≤ 17592186044416) (hb : ∀ x ∈ B, x < 256) (hn : n ≤ 9223372036854775807) : Ev (fun k => outpostref01_Unpack.f k (ints B) n) (unp B n) := by
  unfold outpostref01_Unpack.f unp
  by_cases h0 : n < 0
  · simp only [if_pos h0]
    exact Ev.now _
  obtain ⟨m, rfl⟩ : ∃ m : Nat, n = (m : Int) := ⟨n.toNat, by omega⟩
  simp only [if_neg h0]
  rw [div8 m (by omega), ints_length, Int.toNat_natCast]
  by_cases h1 : ((m / 8 : Nat) : Int) > (B.length : Int)
  · rw [if_pos (show ((8 * B.length : Nat) : Int) < (m : Int) by omega)]
    simp only [if_pos h1]
    refine Ev.succ ?_
    simp only [outpostref01_Unpack.j0, if_true]
    exact Ev.now _
  · simp only [if_neg h1]
    rw [w64 (n := 8 * (B.length : Int)) (by omega) (by omega)]
    by_cases h2 : 8 * B.length < m
    · rw [if_pos (by omega), decide_eq_true (by omega)]
      refine Ev.succ ?_
      simp only [outpostref01_Unpack.j0, if_true]
      exact Ev.now _
    · rw [if_neg (by omega), decide_eq_false (by omega)]
      refine Ev.intro (m + 2) fun k hk => ?_
      obtain ⟨k, rfl⟩ : ∃ q, k = q + 1 := ⟨k - 1, by omega⟩
      simp only [outpostref01_Unpack.j0, Bool.false_eq_true, if_false]
      rw [if_pos (by omega), Int.toNat_natCast, if_pos (by omega), ← ints_replicate]
      exact RUnpack_l0 B m (by omega) hB hb m k 0 _ (by simp) (by simp) (by omega) (by omega)

end Go.Proofs.YtaoeehnnboegnaaW.Q
