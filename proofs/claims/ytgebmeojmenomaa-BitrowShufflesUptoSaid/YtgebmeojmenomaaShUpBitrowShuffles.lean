/- What the row of BitrowShuffles asks, where what comes in is of bulk at most 1048576: the one pure statement. -/
import Derived.Test.YtgebmeojmenomaaShPx11
namespace Go.Proofs.Ytgebmeojmenomaa.bitrowShufflesUpto
open Go.RowKit Go.Proofs.Ytgebmeojmenomaa.P
def UPure : Prop := ∀ (l0 : List Int) (a1 : Int), l0.length ≤ maxLen → l0.length ≤ 1048576 → (∀ x ∈ l0, (Lit.int .u8 x).wf = true) → (Lit.int .i64 a1).wf = true → ∃ k, P.outpostlaw01_BitrowShuffles.f k l0 a1 = some true
end Go.Proofs.Ytgebmeojmenomaa.bitrowShufflesUpto
