/- Rounds of the printed functions: one round more. -/
import Derived.Test.YtgebmeojmenomaaWMore
namespace Go.Proofs.YtgebmeojmenomaaW.Q
open Go.RowKit Go.Proofs.YtgebmeojmenomaaW.PrintWords Go.Proofs.YtgebmeojmenomaaW.PrintLast Go.Proofs.YtgebmeojmenomaaW.PrintMore
theorem Ev.succ {α : Type} {g : Nat → Option α} {r : α} (h : Ev (fun k => g (k + 1)) r) : Ev g r := Ev.step (fun _ => rfl) h
end Go.Proofs.YtgebmeojmenomaaW.Q
