/- Rounds of the printed functions: one round more. -/
import Derived.Test.YtlmhppgplbefcaaGmWAll
namespace Go.Proofs.YtlmhppgplbefcaaW.Q
open Go.RowKit Go.Proofs.YtlmhppgplbefcaaW.PrintWords Go.Proofs.YtlmhppgplbefcaaW.PrintLast Go.Proofs.YtlmhppgplbefcaaW.PrintMore
theorem Ev.succ {α : Type} {g : Nat → Option α} {r : α} (h : Ev (fun k => g (k + 1)) r) : Ev g r := Ev.step (fun _ => rfl) h
end Go.Proofs.YtlmhppgplbefcaaW.Q
