/- For every row of bytes and every number of rows, of bulk at most 1048576 together: Shuffle and Unshuffle answer as the reference does, and what was handed in stays. The plain law of BitrowShuffles' second form. -/
import Derived.Test.YtgebmeojmenomaaShUpBitrowShuffles
import Derived.Test.YtgebmeojmenomaaShQShuf2
namespace Go.Proofs.Ytgebmeojmenomaa.Pure
open Go.RowKit Go.Proofs.Ytgebmeojmenomaa.P Go.Proofs.YtgebmeojmenomaaW.PrintWords Go.Proofs.YtgebmeojmenomaaW.PrintLast Go.Proofs.YtgebmeojmenomaaW.Q
theorem BitrowShufflesUpto : bitrowShufflesUpto.UPure := by
  intro l0 n hm hs hw hn
  obtain ⟨B, rfl, hB⟩ := bytes_of hw
  rw [ints_length] at hs
  refine Ev.rounds (g := fun k => outpostlaw01_BitrowShuffles.f k (ints B) n) ?_
  unfold outpostlaw01_BitrowShuffles.f
  rw [Lent_f B (by omega)]
  simp only [Option.bind_some]
  rw [Shuffle_f B n (by omega), Unshuffle_f B n (by omega)]
  simp only [Option.bind_some]
  refine Ev.bind (RShuffle_f B n (by omega)) (Ev.bind (RUnshuffle_f B n (by omega)) ?_)
  obtain ⟨C, hC⟩ := Spoil_f B (by omega) hB
  simp only [outpostlaw01_num.f, Option.bind_some, Stays_f, if_true]
  refine Ev.bind knows_f ?_
  simp only [if_true]
  refine Ev.bind hC ?_
  simp only [beq_self_eq_true, if_true]
  exact Ev.now true
end Go.Proofs.Ytgebmeojmenomaa.Pure
