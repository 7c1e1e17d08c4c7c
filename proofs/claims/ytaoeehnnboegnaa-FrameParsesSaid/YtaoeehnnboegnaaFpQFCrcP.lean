/- What the printed functions of check sums say, in plain words, for layer frame (written by gen_qfbit.py out of XQCrcP). -/
import Derived.Test.YtaoeehnnboegnaaFpPx2
import Derived.Test.YtaoeehnnboegnaaFpPx4
import Derived.Test.YtaoeehnnboegnaaFpPx3
import Derived.Test.YtaoeehnnboegnaaFpPx9
import Derived.Test.YtaoeehnnboegnaaFpPx1
import Derived.Test.YtaoeehnnboegnaaFpQBase
import Derived.Test.YtaoeehnnboegnaaFpQEv
import Derived.Lib.Bytes
set_option linter.unusedVariables false
set_option linter.unusedSimpArgs false
namespace Go.Proofs.Ytaoeehnnboegnaa.Crc
open Go.RowKit Go.Proofs.Ytaoeehnnboegnaa.P Go.Proofs.YtaoeehnnboegnaaW.PrintWords Go.Proofs.YtaoeehnnboegnaaW.PrintLast Go.Proofs.YtaoeehnnboegnaaW.PrintMore
theorem wf_u32 {a : Int} (h : (Lit.int .u32 a).wf = true) : 0 ≤ a ∧ a < 4294967296 := by
  have : 0 ≤ a ∧ a ≤ 4294967295 := by simpa [Lit.wf, IntKind.min, IntKind.max, IntKind.signed, IntKind.bits] using h
  omega
theorem wf_i64 {a : Int} (h : (Lit.int .i64 a).wf = true) : -9223372036854775808 ≤ a ∧ a ≤ 9223372036854775807 := by simpa [Lit.wf, IntKind.min, IntKind.max, IntKind.signed, IntKind.bits] using h
theorem wf_u8s {l : List Int} (h : ∀ x ∈ l, (Lit.int .u8 x).wf = true) : ∀ x ∈ l, 0 ≤ x ∧ x < 256 := fun x hx => by
  have : 0 ≤ x ∧ x ≤ 255 := by simpa [Lit.wf, IntKind.min, IntKind.max, IntKind.signed, IntKind.bits] using h x hx
  omega
/-- The reference's Check. -/
theorem refCheck_f (a0 a1 a2 a3 : Int) (R : Bool) (h1 : 0 ≤ a1 ∧ a1 < 4294967296) (h2 : 0 ≤ a2 ∧ a2 < 4294967296) (h3 : 0 ≤ a3 ∧ a3 < 4294967296) : outpostref03_Check.f 1 a0 a1 a2 a3 R = some (if okI a0 a1 a2 a3 then 0 else 30) := by
  have over : ∀ (n : Nat) (a b c d : Int), (n = 8 ∨ n = 16 ∨ n = 24 ∨ n = 32) → 0 ≤ d → d < 4294967296 → outpostref03_over.f (n : Int) a b c R d = some (! decide (d < 2 ^ n)) := by
    intro n a b c d hn d0 d1
    unfold outpostref03_over.f
    have w : IntKind.u64.wrap (n : Int) = (n : Int) := by rw [IntKind.wrap_u64]; omega
    have w2 : IntKind.u64.wrap d = d := by rw [IntKind.wrap_u64]; omega
    rw [w, w2, if_pos (by omega)]
    unfold shr
    rw [show min (n : Int).toNat IntKind.u64.bits = n by simp [IntKind.bits]; omega]
    congr 1
    obtain ⟨m, rfl⟩ : ∃ m : Nat, d = (m : Int) := ⟨d.toNat, by omega⟩
    have e : (m : Int) / 2 ^ n = ((m / 2 ^ n : Nat) : Int) := by simp
    have p : ((m : Int) < 2 ^ n) ↔ m < 2 ^ n := by rw [← Int.ofNat_lt]; simp
    rw [e]
    by_cases hm : m < 2 ^ n
    · rw [Nat.div_eq_of_lt hm, show decide ((m : Int) < 2 ^ n) = true from decide_eq_true (p.2 hm)]; rfl
    · have : 0 < m / 2 ^ n := Nat.div_pos (by omega) (Nat.pow_pos (by omega))
      rw [show decide ((m : Int) < 2 ^ n) = false from decide_eq_false (fun h => hm (p.1 h))]
      simp only [Bool.not_false]
      exact decide_eq_true (by omega)
  have key : ∀ (n : Nat), (n = 8 ∨ n = 16 ∨ n = 24 ∨ n = 32) → outpostref03_Check.j0 1 false (n : Int) a1 a2 a3 R = some (if okI (n : Int) a1 a2 a3 then 0 else 30) := by
    intro n hn
    have hor : (decide ((n : Int) = 8) || decide ((n : Int) = 16) || decide ((n : Int) = 24) || decide ((n : Int) = 32)) = true := by
      simp only [Bool.or_eq_true, decide_eq_true_eq]
      omega
    have o1 := over n a1 a2 a3 a1 hn h1.1 h1.2
    have o2 := over n a1 a2 a3 a2 hn h2.1 h2.2
    have o3 := over n a1 a2 a3 a3 hn h3.1 h3.2
    simp only [outpostref03_Check.j0, Bool.false_eq_true, if_false, okI, hor, Bool.true_and, Int.toNat_natCast, o1, o2, o3, Option.bind_some]
    by_cases c1 : a1 < 2 ^ n <;> by_cases c2 : a2 < 2 ^ n <;> by_cases c3 : a3 < 2 ^ n <;> by_cases c4 : Int.tmod a1 2 = 0 <;> simp [c1, c2, c3, c4]
  unfold outpostref03_Check.f
  by_cases h8 : a0 = 8
  · subst h8; rw [if_pos rfl]; exact key 8 (by omega)
  · rw [if_neg h8]
    by_cases h16 : a0 = 16
    · subst h16; rw [if_pos rfl]; exact key 16 (by omega)
    · rw [if_neg h16]
      by_cases h24 : a0 = 24
      · subst h24; rw [if_pos rfl]; exact key 24 (by omega)
      · rw [if_neg h24]
        by_cases h32 : a0 = 32
        · subst h32; exact key 32 (by omega)
        · simp [outpostref03_Check.j0, okI, h8, h16, h24, h32]
/-- The code's Sum, of a spec that is one. -/
theorem Sum_f {W P I O : Nat} {R : Bool} (hs : okN W P I O) (B : List Nat) (hB : ∀ x ∈ B, x < 256) : crc_Sum.f W P I O R (B.map (fun n : Nat => (n : Int))) = some (((crc R W P I O B : Nat) : Int), 0) := by
  unfold crc_Sum.f
  rw [if_pos ((okI_nat W P I O).2 hs), if_pos ⟨by omega, by omega, by omega, fun x hx => by
    obtain ⟨y, hy, rfl⟩ := List.mem_map.1 hx
    have := hB y hy
    omega⟩, show (B.map (fun n : Nat => (n : Int))).map Int.toNat = B from toNat_ints B]
  simp only [Int.toNat_natCast]
/-- The code's Seal, of a spec that is one. -/
theorem Seal_f {W P I O : Nat} {R : Bool} (hs : okN W P I O) (B : List Nat) (hB : ∀ x ∈ B, x < 256) (hl : B.length + 8 < 140737488355328) : crc_Seal.f W P I O R (ints B) = some (ints (B ++ layl R (W / 8) (crc R W P I O B)), 0) := by
  unfold crc_Seal.f
  rw [if_pos ((okI_nat W P I O).2 hs), if_pos ⟨⟨by omega, by omega, by omega, fun x hx => by
    obtain ⟨y, hy, rfl⟩ := List.mem_map.1 hx
    have := hB y hy
    omega⟩, by rw [ints_length]; exact hl⟩, toNat_ints B]
  simp only [Int.toNat_natCast]
  rw [show ints (B ++ layl R (W / 8) (crc R W P I O B)) = ints B ++ ints (layl R (W / 8) (crc R W P I O B)) by simp [ints]]
/-- The code's Unseal, of a spec that is one. -/
theorem Unseal_f {W P I O : Nat} {R : Bool} (hs : okN W P I O) (B : List Nat) (hB : ∀ x ∈ B, x < 256) (hl : B.length < 140737488355328) : crc_Unseal.f W P I O R (ints B) = some (unsealed R W P I O B) := by
  unfold crc_Unseal.f
  rw [if_pos ((okI_nat W P I O).2 hs), if_pos ⟨⟨by omega, by omega, by omega, fun x hx => by
    obtain ⟨y, hy, rfl⟩ := List.mem_map.1 hx
    have := hB y hy
    omega⟩, by rw [ints_length]; exact hl⟩, toNat_ints B]
  simp only [Int.toNat_natCast]

open Go.Proofs.YtaoeehnnboegnaaW.Q (Ev.succ w64 w64s wu64)
theorem refCheck_ev {a0 a1 a2 a3 : Int} (R : Bool) (h1 : 0 ≤ a1 ∧ a1 < 4294967296) (h2 : 0 ≤ a2 ∧ a2 < 4294967296) (h3 : 0 ≤ a3 ∧ a3 < 4294967296) : Ev (fun k => outpostref03_Check.f k a0 a1 a2 a3 R) (if okI a0 a1 a2 a3 then 0 else 30) :=
  Ev.of (fun k => outpostref03_Check.mono _ _ _ _ _ k) (refCheck_f a0 a1 a2 a3 R h1 h2 h3)
/-- Strings are alike just where their bytes are. -/
theorem str_inj {A B : List Nat} (hA : ∀ x ∈ A, x < 256) (hB : ∀ x ∈ B, x < 256) : (strOfNums (ints A)).toList = (strOfNums (ints B)).toList ↔ A = B := by
  constructor
  · intro h
    have e : ∀ (C : List Nat), (∀ x ∈ C, x < 256) → (strOfNums (ints C)).toList.map UInt8.toNat = C := fun C hC => by
      rw [Lib.strOfNums_toList]
      unfold Lib.bytesOf ints
      rw [List.map_map, List.map_map]
      calc C.map (UInt8.toNat ∘ _) = C.map id := List.map_congr_left (fun x hx => by
            have := hC x hx
            simp [Nat.mod_eq_of_lt this])
        _ = C := List.map_id C
    rw [← e A hA, h, e B hB]
  · intro h
    rw [h]
end Go.Proofs.Ytaoeehnnboegnaa.Crc
