/- Good, Seal, Unseal in plain words, for CrcOwn (out of XQCrcP). -/
import Derived.Test.YtbcejldbmemaeaaOwPx2
import Derived.Test.YtbcejldbmemaeaaOwPx3
import Derived.Test.YtbcejldbmemaeaaOwPx1
set_option linter.unusedVariables false
set_option linter.unusedSimpArgs false
namespace Go.Proofs.Ytbcejldbmemaeaa.Crc
open Go.RowKit Go.Proofs.Ytbcejldbmemaeaa.P Go.Proofs.YtbcejldbmemaeaaW.PrintWords Go.Proofs.YtbcejldbmemaeaaW.PrintLast Go.Proofs.YtbcejldbmemaeaaW.PrintMore
theorem wf_u32 {a : Int} (h : (Lit.int .u32 a).wf = true) : 0 ≤ a ∧ a < 4294967296 := by
  have : 0 ≤ a ∧ a ≤ 4294967295 := by simpa [Lit.wf, IntKind.min, IntKind.max, IntKind.signed, IntKind.bits] using h
  omega
theorem wf_i64 {a : Int} (h : (Lit.int .i64 a).wf = true) : -9223372036854775808 ≤ a ∧ a ≤ 9223372036854775807 := by simpa [Lit.wf, IntKind.min, IntKind.max, IntKind.signed, IntKind.bits] using h
theorem wf_u8s {l : List Int} (h : ∀ x ∈ l, (Lit.int .u8 x).wf = true) : ∀ x ∈ l, 0 ≤ x ∧ x < 256 := fun x hx => by
  have : 0 ≤ x ∧ x ≤ 255 := by simpa [Lit.wf, IntKind.min, IntKind.max, IntKind.signed, IntKind.bits] using h x hx
  omega
theorem tmod4_lo (a : Int) : -4 < Int.tmod a 4 := by
  rw [Int.tmod_eq_emod]
  split <;> omega
/-- A spec that is one, out of any. -/
theorem Good_f (a0 a1 a2 a3 : Int) (R : Bool) (h0 : -9223372036854775808 ≤ a0 ∧ a0 ≤ 9223372036854775807) (h1 : 0 ≤ a1 ∧ a1 < 4294967296) (h2 : 0 ≤ a2 ∧ a2 < 4294967296) (h3 : 0 ≤ a3 ∧ a3 < 4294967296) :
    ∃ W P I O : Nat, okN W P I O ∧ outpostlaw03_Good.f a0 a1 a2 a3 R = some ((W : Int), (P : Int), (I : Int), (O : Int), R) := by
  obtain ⟨m, hm4, hm⟩ : ∃ m : Nat, m < 4 ∧ Int.tmod (wrap64 (Int.tmod a0 4 + 4)) 4 = (m : Int) := by
    have e1 : wrap64 (Int.tmod a0 4 + 4) = Int.tmod a0 4 + 4 := by
      have := Int.tmod_lt_of_pos a0 (show (0 : Int) < 4 by omega)
      have := tmod4_lo a0
      unfold wrap64
      omega
    have b1 := Int.tmod_lt_of_pos a0 (show (0 : Int) < 4 by omega)
    have b2 := tmod4_lo a0
    rw [e1, Int.tmod_eq_emod_of_nonneg (by omega)]
    exact ⟨((Int.tmod a0 4 + 4) % 4).toNat, by omega, by omega⟩
  have e2 : wrap64 (8 * wrap64 (1 + (m : Int))) = ((8 * (1 + m) : Nat) : Int) := by unfold wrap64; omega
  have e3 : IntKind.u64.wrap ((8 * (1 + m) : Nat) : Int) = ((8 * (1 + m) : Nat) : Int) := by rw [IntKind.wrap_u64]; omega
  have e4 : IntKind.u64.wrap (shl .u64 1 ((8 * (1 + m) : Nat) : Int) - 1) = ((2 ^ (8 * (1 + m)) - 1 : Nat) : Int) := by
    have : m = 0 ∨ m = 1 ∨ m = 2 ∨ m = 3 := by omega
    rcases this with rfl | rfl | rfl | rfl <;> decide +kernel
  have hw : 2 ^ (8 * (1 + m)) ≤ 2 ^ 32 := Nat.pow_le_pow_right (by omega) (by omega)
  have hp : 0 < 2 ^ (8 * (1 + m)) := Nat.pow_pos (by omega)
  have mask : ∀ a : Int, 0 ≤ a → a < 4294967296 → (Go.bits .and .u64 (IntKind.u64.wrap a) ((2 ^ (8 * (1 + m)) - 1 : Nat) : Int)) % 4294967296 = ((a.toNat % 2 ^ (8 * (1 + m)) : Nat) : Int) := by
    intro a ha hb
    obtain ⟨n, rfl⟩ : ∃ n : Nat, a = (n : Int) := ⟨a.toNat, by omega⟩
    have w : IntKind.u64.wrap (n : Int) = (n : Int) := by rw [IntKind.wrap_u64]; omega
    rw [w, u64_and_nat _ _ (by omega) (by omega), Nat.and_two_pow_sub_one_eq_mod, Int.toNat_natCast]
    have := Nat.mod_lt n hp
    omega
  refine ⟨8 * (1 + m), (a1.toNat % 2 ^ (8 * (1 + m))) ||| 1, a2.toNat % 2 ^ (8 * (1 + m)), a3.toNat % 2 ^ (8 * (1 + m)), ⟨by omega, ?_, Nat.mod_lt _ hp, Nat.mod_lt _ hp, ?_⟩, ?_⟩
  · exact Nat.or_lt_two_pow (Nat.mod_lt _ hp) (Nat.lt_of_lt_of_le (show 1 < 2 ^ 8 by decide) (Nat.pow_le_pow_right (by omega) (by omega)))
  · rw [Nat.or_mod_two_eq_one]
    omega
  · unfold outpostlaw03_Good.f
    rw [hm, e2, e3, e4, mask a1 h1.1 h1.2, mask a2 h2.1 h2.2, mask a3 h3.1 h3.2, if_pos (by omega)]
    have := Nat.mod_lt a1.toNat hp
    rw [show (1 : Int) = ((1 : Nat) : Int) from rfl, bor32 _ _ (by omega) (by omega)]
/-- The code's Seal, of a spec that is one. -/
theorem Seal_f {W P I O : Nat} {R : Bool} (hs : okN W P I O) (B : List Nat) (hB : ∀ x ∈ B, x < 256) (hl : B.length + 8 < 140737488355328) : crc_Seal.f W P I O R (ints B) = some (ints (B ++ layl R (W / 8) (crc R W P I O B)), 0) := by
  unfold crc_Seal.f
  rw [if_pos ((okI_nat W P I O).2 hs), if_pos ⟨⟨by omega, by omega, by omega, fun x hx => by
    obtain ⟨y, hy, rfl⟩ := List.mem_map.1 hx
    have := hB y hy
    omega⟩, by rw [ints_length]; exact hl⟩, toNat_ints B]
  simp only [Int.toNat_natCast]
  rw [show ints (B ++ layl R (W / 8) (crc R W P I O B)) = ints B ++ ints (layl R (W / 8) (crc R W P I O B)) by simp [ints]]
/-- The code's Unseal, of a spec that is one. -/
theorem Unseal_f {W P I O : Nat} {R : Bool} (hs : okN W P I O) (B : List Nat) (hB : ∀ x ∈ B, x < 256) (hl : B.length < 140737488355328) : crc_Unseal.f W P I O R (ints B) = some (unsealed R W P I O B) := by
  unfold crc_Unseal.f
  rw [if_pos ((okI_nat W P I O).2 hs), if_pos ⟨⟨by omega, by omega, by omega, fun x hx => by
    obtain ⟨y, hy, rfl⟩ := List.mem_map.1 hx
    have := hB y hy
    omega⟩, by rw [ints_length]; exact hl⟩, toNat_ints B]
  simp only [Int.toNat_natCast]

end Go.Proofs.Ytbcejldbmemaeaa.Crc
