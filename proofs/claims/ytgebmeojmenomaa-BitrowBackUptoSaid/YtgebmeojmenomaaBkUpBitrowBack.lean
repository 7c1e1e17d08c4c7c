/- What the row of BitrowBack asks, where what comes in is of bulk at most 1048576: the one pure statement. -/
import Derived.Test.YtgebmeojmenomaaBkPx15
namespace Go.Proofs.Ytgebmeojmenomaa.bitrowBackUpto
open Go.RowKit Go.Proofs.Ytgebmeojmenomaa.P
def UPure : Prop := ∀ (l0 : List Int) (l1 : List Int) (a2 : Int) (a3 : Int) (a4 : Int), l0.length ≤ maxLen → l0.length ≤ 1048576 → (∀ x ∈ l0, (Lit.int .u8 x).wf = true) → l1.length ≤ maxLen → l1.length ≤ 1048576 → (∀ x ∈ l1, (Lit.int .u8 x).wf = true) → (Lit.int .u64 a2).wf = true → (Lit.int .i64 a3).wf = true → (Lit.int .i64 a4).wf = true → ∃ k, P.outpostlaw01_BitrowBack.f k l0 l1 a2 a3 a4 = some true
end Go.Proofs.Ytgebmeojmenomaa.bitrowBackUpto
