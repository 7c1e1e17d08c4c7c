/- Rounds of the printed functions: one round more. -/
import Derived.Test.YtdhnjnkjhfomiaaRwWAll
namespace Go.Proofs.YtdhnjnkjhfomiaaW.Q
open Go.RowKit Go.Proofs.YtdhnjnkjhfomiaaW.PrintWords Go.Proofs.YtdhnjnkjhfomiaaW.PrintLast Go.Proofs.YtdhnjnkjhfomiaaW.PrintMore
theorem Ev.succ {α : Type} {g : Nat → Option α} {r : α} (h : Ev (fun k => g (k + 1)) r) : Ev g r := Ev.step (fun _ => rfl) h
end Go.Proofs.YtdhnjnkjhfomiaaW.Q
