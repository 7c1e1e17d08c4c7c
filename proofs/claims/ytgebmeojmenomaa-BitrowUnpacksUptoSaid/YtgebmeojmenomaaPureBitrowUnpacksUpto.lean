/- For every row of bytes and every number, of bulk at most 1048576 together: Unpack answers as the reference does, and what was handed in stays. The plain law of BitrowUnpacks' second form. -/
import Derived.Test.YtgebmeojmenomaaUpBitrowUnpacks
import Derived.Test.YtgebmeojmenomaaQBit5
namespace Go.Proofs.Ytgebmeojmenomaa.Pure
open Go.RowKit Go.Proofs.Ytgebmeojmenomaa.P Go.Proofs.YtgebmeojmenomaaW.PrintWords Go.Proofs.YtgebmeojmenomaaW.PrintLast Go.Proofs.YtgebmeojmenomaaW.Q
theorem BitrowUnpacksUpto : bitrowUnpacksUpto.UPure := by
  intro l0 n hm hs hw hn
  obtain ⟨B, rfl, hB⟩ := bytes_of hw
  rw [ints_length] at hs
  have hl : B.length ≤ 17592186044416 := by omega
  have hn1 : n ≤ 9223372036854775807 := by
    have h : -9223372036854775808 ≤ n ∧ n ≤ 9223372036854775807 := by simpa [Lit.wf, IntKind.min, IntKind.max, IntKind.signed, IntKind.bits] using hn
    exact h.2
  refine Ev.rounds (g := fun k => outpostlaw01_BitrowUnpacks.f k (ints B) n) ?_
  unfold outpostlaw01_BitrowUnpacks.f
  rw [Lent_f B (by omega)]
  simp only [Option.bind_some]
  refine Ev.bind (Unpack_f B n hl hB hn1) (Ev.bind (RUnpack_f B n hl hB hn1) ?_)
  obtain ⟨C, hC⟩ := Spoil_f B (by omega) hB
  simp only [outpostlaw01_num.f, Option.bind_some, Stays_f, if_true]
  refine Ev.bind knows_f ?_
  simp only [if_true]
  refine Ev.bind hC ?_
  simp only [beq_self_eq_true]
  exact Ev.now true
end Go.Proofs.Ytgebmeojmenomaa.Pure
