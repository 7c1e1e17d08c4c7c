-- a part of what the kit's print wrote: what no text of this claim names is left out
import Derived.Test.YtlmhppgplbefcaaGeWInv
import Derived.Test.YtlmhppgplbefcaaGeWFootNe
namespace Go.Proofs.YtlmhppgplbefcaaW.PrintWords
open Go.RowKit
end Go.Proofs.YtlmhppgplbefcaaW.PrintWords
namespace Go.Proofs.YtlmhppgplbefcaaW.PrintLast
section
variable {ops : Array Oper} {a : Act} {o og : Oper} {g : Nat} {t : Tmp} {u : Bool}
end
end Go.Proofs.YtlmhppgplbefcaaW.PrintLast
