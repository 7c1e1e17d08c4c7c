/- What Seal and Unseal answer is the caller's own: the plain part: what is sealed is unsealed. The plain law of CrcOwn. -/
import Derived.Test.YtbcejldbmemaeaaOwPx80
import Derived.Test.YtbcejldbmemaeaaOwQOCrcP
namespace Go.Proofs.Ytbcejldbmemaeaa.Pure
open Go.RowKit Go.Proofs.Ytbcejldbmemaeaa.P Go.Proofs.YtbcejldbmemaeaaW.PrintWords Go.Proofs.YtbcejldbmemaeaaW.PrintLast Go.Proofs.YtbcejldbmemaeaaW.PrintMore
open Go.Proofs.Ytbcejldbmemaeaa.Crc
theorem own_layl_lt (R : Bool) (m v : Nat) : ∀ x ∈ layl R m v, x < 256 := by
  intro x hx
  obtain ⟨i, _, rfl⟩ := List.mem_map.1 hx
  unfold layc
  split <;> exact Nat.mod_lt _ (by decide)
theorem CrcOwn : outpostlaw03_CrcOwn.Pure := by
  intro a0 a1 a2 a3 R l1 g0 g1 g2 g3 hm hl hw
  obtain ⟨B, rfl, hB⟩ := Crc.bytes_of (Crc.wf_u8s hw)
  rw [Crc.ints_length] at hl
  obtain ⟨W, P, I, O, hs, hG⟩ := Crc.Good_f a0 a1 a2 a3 R (Crc.wf_i64 g0) (Crc.wf_u32 g1) (Crc.wf_u32 g2) (Crc.wf_u32 g3)
  have hW : W / 8 ≤ 4 := by rcases hs.1 with h | h | h | h <;> omega
  have hX : ∀ x ∈ B ++ layl R (W / 8) (crc R W P I O B), x < 256 := fun x hx => by
    rcases List.mem_append.1 hx with h | h
    · exact hB x h
    · exact own_layl_lt _ _ _ x h
  have hlen : (B ++ layl R (W / 8) (crc R W P I O B)).length = B.length + W / 8 := by rw [List.length_append, layl_length]
  refine ⟨Crc.ints (B ++ layl R (W / 8) (crc R W P I O B)), W, P, I, O, R, hG, Crc.Seal_f hs B hB (by omega), ?_, by rw [Crc.ints_length, hlen]; omega⟩
  rw [Crc.Unseal_f hs _ hX (by omega)]
  unfold unsealed
  rw [if_neg (by omega), show (B ++ layl R (W / 8) (crc R W P I O B)).length - W / 8 = B.length by omega, List.take_left' rfl, List.drop_left' rfl, if_pos rfl]
end Go.Proofs.Ytbcejldbmemaeaa.Pure
