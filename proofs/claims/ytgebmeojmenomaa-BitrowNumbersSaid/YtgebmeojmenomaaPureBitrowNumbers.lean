/- For every row of bytes, number and length: Weight, Number and Row answer as the reference does, and what was handed in stays. The plain law of BitrowNumbers; no condition. -/
import Derived.Test.YtgebmeojmenomaaPx5
import Derived.Test.YtgebmeojmenomaaQBit3
namespace Go.Proofs.Ytgebmeojmenomaa.Pure
open Go.RowKit Go.Proofs.Ytgebmeojmenomaa.P Go.Proofs.YtgebmeojmenomaaW.PrintWords Go.Proofs.YtgebmeojmenomaaW.PrintLast Go.Proofs.YtgebmeojmenomaaW.Q
theorem BitrowNumbers : outpostlaw01_BitrowNumbers.Pure := by
  intro l0 a1 a2 hm0 hs0 hw0 hw1 _
  obtain ⟨A, rfl, hA⟩ := bytes_of hw0
  rw [ints_length] at hs0
  have ha : A.length ≤ 140737488355328 := by omega
  have hb : 0 ≤ a1 ∧ a1 ≤ 18446744073709551615 := by simpa [Lit.wf, IntKind.min, IntKind.max, IntKind.signed, IntKind.bits] using hw1
  obtain ⟨v, rfl⟩ := Int.eq_ofNat_of_zero_le hb.1
  have hv : v < 18446744073709551616 := by omega
  refine Ev.rounds (g := fun k => outpostlaw01_BitrowNumbers.f k (ints A) (v : Int) a2) ?_
  unfold outpostlaw01_BitrowNumbers.f
  rw [Lent_f A (by omega)]
  simp only [Option.bind_some]
  refine Ev.bind (Weight_f A ha) (Ev.bind (Number_f A ha) (Ev.bind (Row_f v a2 hv) (Ev.bind (RWeight_f A ha) (Ev.bind (RNumber_f A ha) (Ev.bind (RRow_f v a2 hv) ?_)))))
  simp only [outpostlaw01_num.f, Option.bind_some, Stays_f, if_true]
  exact Ev.bind knows_f (Ev.now true)
end Go.Proofs.Ytgebmeojmenomaa.Pure
