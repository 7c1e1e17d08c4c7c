-- a part of what the kit's print wrote: what no text of this claim names is left out
import Derived.Test.YtlmhppgplbefcaaGeWTab
/-! ### 56. Four, five, six operations that may come up next, in any order -/
namespace Go.Proofs.YtlmhppgplbefcaaW.PrintLast
section
variable {P : Program} {ops : Array Oper} {Q : Exit → Act → World → Prop} {md : Region.Mode} {S : World → Prop} {ds : List Nat} {T : Bool × List (List Nat × List Nat)}
end
end Go.Proofs.YtlmhppgplbefcaaW.PrintLast
