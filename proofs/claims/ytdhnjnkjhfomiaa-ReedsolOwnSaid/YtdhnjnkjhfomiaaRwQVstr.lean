/- Words: a string made of bytes that are told by their footprint. No program in sight. -/
import Derived.Test.YtdhnjnkjhfomiaaRwWAll
set_option linter.unusedVariables false
namespace Go.Proofs.YtdhnjnkjhfomiaaW.PrintWords
open Go.RowKit Go.Proofs.YtdhnjnkjhfomiaaW.PrintMore Go.Proofs.YtdhnjnkjhfomiaaW.PrintLast
theorem V_string {P : Program} {w : World} {base : Nat} {ok : Nat → Prop} {e' src dst e : TypeId} {v : Value} {xs : List Int} (hs : P.underlying src = some (.slice e)) (he : P.underlying e = some (.int .u8)) (hd : P.underlying dst = some .string)
    (h : Kd.V (Kd.int .u8) e' w base ok v xs) : (convert src dst v).run P w = .ok (.string (strOfNums xs)) w := by
  obtain ⟨A,c,rfl⟩ := Kd.V_slice h
  exact Kd.C_string hs he hd (Kd.V_reads' h).2.2
end Go.Proofs.YtdhnjnkjhfomiaaW.PrintWords
