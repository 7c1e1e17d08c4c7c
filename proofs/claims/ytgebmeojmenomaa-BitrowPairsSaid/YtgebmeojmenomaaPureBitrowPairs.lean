/- For every two rows of bytes: Xor, Distance and Burst answer as the reference does, and what was handed in stays. The plain law of BitrowPairs; no condition. -/
import Derived.Test.YtgebmeojmenomaaPx7
import Derived.Test.YtgebmeojmenomaaQBit2
namespace Go.Proofs.Ytgebmeojmenomaa.Pure
open Go.RowKit Go.Proofs.Ytgebmeojmenomaa.P Go.Proofs.YtgebmeojmenomaaW.PrintWords Go.Proofs.YtgebmeojmenomaaW.PrintLast Go.Proofs.YtgebmeojmenomaaW.Q
theorem BitrowPairs : outpostlaw01_BitrowPairs.Pure := by
  intro l0 l1 hm0 hs0 hw0 hm1 hs1 hw1
  obtain ⟨A, rfl, hA⟩ := bytes_of hw0
  obtain ⟨B, rfl, hB⟩ := bytes_of hw1
  rw [ints_length] at hs0 hs1
  have ha : A.length ≤ 140737488355328 := by omega
  have hb : B.length ≤ 140737488355328 := by omega
  refine Ev.rounds (g := fun k => outpostlaw01_BitrowPairs.f k (ints A) (ints B)) ?_
  unfold outpostlaw01_BitrowPairs.f
  rw [Lent_f A (by omega), Lent_f B (by omega)]
  simp only [Option.bind_some]
  refine Ev.bind (Xor_f A B ha hb) (Ev.bind (Distance_f A B ha hb) (Ev.bind (Burst_f A B ha hb) (Ev.bind (RXor_f A B ha hb) (Ev.bind (RDistance_f A B ha hb) (Ev.bind (RBurst_f A B ha hb) ?_)))))
  obtain ⟨C, hC⟩ := Spoil_f A ha hA
  obtain ⟨D, hD⟩ := Spoil_f B hb hB
  simp only [outpostlaw01_num.f, Option.bind_some, Stays_f, if_true]
  refine Ev.bind knows_f ?_
  refine Ev.step (f := fun k => (outpostlaw01_Spoil.f k (ints A)).bind fun t276 => ((outpostlaw01_Spoil.f k (ints B)).bind fun t277 => some true)) ?_ ?_
  · intro k
    simp only [outpostlaw01_BitrowPairs.j0, Bool.not_true, Bool.false_eq_true, if_false, beq_self_eq_true]
  · exact Ev.bind hC (Ev.bind hD (Ev.now true))
end Go.Proofs.Ytgebmeojmenomaa.Pure
