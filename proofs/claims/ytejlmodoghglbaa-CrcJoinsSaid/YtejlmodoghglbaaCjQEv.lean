/- Rounds of the printed functions: one round more. -/
import Derived.Test.YtejlmodoghglbaaCjWAll
namespace Go.Proofs.YtejlmodoghglbaaW.Q
open Go.RowKit Go.Proofs.YtejlmodoghglbaaW.PrintWords Go.Proofs.YtejlmodoghglbaaW.PrintLast Go.Proofs.YtejlmodoghglbaaW.PrintMore
theorem Ev.succ {α : Type} {g : Nat → Option α} {r : α} (h : Ev (fun k => g (k + 1)) r) : Ev g r := Ev.step (fun _ => rfl) h
end Go.Proofs.YtejlmodoghglbaaW.Q
