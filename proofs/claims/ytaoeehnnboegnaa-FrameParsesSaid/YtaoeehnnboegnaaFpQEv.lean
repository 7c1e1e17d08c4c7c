/- Rounds of the printed functions: one round more. -/
import Derived.Test.YtaoeehnnboegnaaFpWAll
namespace Go.Proofs.YtaoeehnnboegnaaW.Q
open Go.RowKit Go.Proofs.YtaoeehnnboegnaaW.PrintWords Go.Proofs.YtaoeehnnboegnaaW.PrintLast Go.Proofs.YtaoeehnnboegnaaW.PrintMore
theorem Ev.succ {α : Type} {g : Nat → Option α} {r : α} (h : Ev (fun k => g (k + 1)) r) : Ev g r := Ev.step (fun _ => rfl) h
end Go.Proofs.YtaoeehnnboegnaaW.Q
