/- Rounds of the printed functions: one round more. -/
import Derived.Test.YtjdkamhnbheofaaGpWAll
namespace Go.Proofs.YtjdkamhnbheofaaW.Q
open Go.RowKit Go.Proofs.YtjdkamhnbheofaaW.PrintWords Go.Proofs.YtjdkamhnbheofaaW.PrintLast Go.Proofs.YtjdkamhnbheofaaW.PrintMore
theorem Ev.succ {α : Type} {g : Nat → Option α} {r : α} (h : Ev (fun k => g (k + 1)) r) : Ev g r := Ev.step (fun _ => rfl) h
end Go.Proofs.YtjdkamhnbheofaaW.Q
