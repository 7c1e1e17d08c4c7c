/- For every row of bytes: Valid and Pack answer as the reference does, and what was handed in stays. The plain law of BitrowPacks; no condition. -/
import Derived.Test.YtgebmeojmenomaaPx3
import Derived.Test.YtgebmeojmenomaaQBit1
namespace Go.Proofs.Ytgebmeojmenomaa.Pure
open Go.RowKit Go.Proofs.Ytgebmeojmenomaa.P Go.Proofs.YtgebmeojmenomaaW.PrintWords Go.Proofs.YtgebmeojmenomaaW.PrintLast Go.Proofs.YtgebmeojmenomaaW.Q
theorem BitrowPacks : outpostlaw01_BitrowPacks.Pure := by
  intro l0 hm hs hw
  obtain ⟨B, rfl, hB⟩ := bytes_of hw
  rw [ints_length] at hs
  have hl : B.length ≤ 140737488355328 := by omega
  refine Ev.rounds (g := fun k => outpostlaw01_BitrowPacks.f k (ints B)) ?_
  unfold outpostlaw01_BitrowPacks.f
  rw [Lent_f B (by omega)]
  simp only [Option.bind_some]
  refine Ev.bind (Valid_f B hl) (Ev.bind (Pack_f B hl) (Ev.bind (RPack_f B hl) (Ev.bind (RValid_f B hl) ?_)))
  obtain ⟨C, hC⟩ := Spoil_f B hl hB
  simp only [outpostlaw01_num.f, Option.bind_some, Stays_f, bne_self_eq_false, Bool.false_eq_true, if_false, if_true]
  refine Ev.bind knows_f ?_
  simp only [if_true]
  refine Ev.bind hC ?_
  simp only [beq_self_eq_true]
  exact Ev.now true
end Go.Proofs.Ytgebmeojmenomaa.Pure
