-- a part of what the kit's print wrote: what no text of this claim names is left out
import Derived.Test.YtlmhppgplbefcaaGeWWords
import Derived.Laws.StructEq
/-! ### 53. '==' of structs as_ one Bool -/
namespace Go.Proofs.YtlmhppgplbefcaaW.PrintWords
open Go.RowKit
section
variable {P : Program} {d : Nat} {xs ys : Array Value} {f : Field} {fs : List Field} {a b : Value} {r s : Bool} {w : World}
end
end Go.Proofs.YtlmhppgplbefcaaW.PrintWords
