/- Reedsol: the example's code word comes, and is mended. -/
import Derived.Test.YtdhnjnkjhfomiaaRhQRsA
import Derived.Test.YtdhnjnkjhfomiaaRhPx60
set_option linter.unusedVariables false
namespace Go.Proofs.Ytdhnjnkjhfomiaa.GalP
open Go.RowKit P YtdhnjnkjhfomiaaW.PrintWords YtdhnjnkjhfomiaaW.PrintLast YtdhnjnkjhfomiaaW.PrintMore YtdhnjnkjhfomiaaW.Q
open Gal
theorem knows_f : Ev (fun k => l4_knows.f k) true := l4_knows.ev
end Go.Proofs.Ytdhnjnkjhfomiaa.GalP
