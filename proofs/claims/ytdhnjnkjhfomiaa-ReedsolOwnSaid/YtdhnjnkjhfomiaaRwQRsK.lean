/- Reedsol: the example's code word comes, and is mended. -/
import Derived.Test.YtdhnjnkjhfomiaaRwQRsA
import Derived.Test.YtdhnjnkjhfomiaaRwPx60
set_option linter.unusedVariables false
namespace Go.Proofs.Ytdhnjnkjhfomiaa.GalP
open Go.RowKit Go.Proofs.Ytdhnjnkjhfomiaa.P Go.Proofs.YtdhnjnkjhfomiaaW.PrintWords Go.Proofs.YtdhnjnkjhfomiaaW.PrintLast Go.Proofs.YtdhnjnkjhfomiaaW.PrintMore Go.Proofs.YtdhnjnkjhfomiaaW.Q
open Go.Proofs.Ytdhnjnkjhfomiaa.Gal
theorem knows_f : Ev (fun k => l4_knows.f k) true := l4_knows.ev
end Go.Proofs.Ytdhnjnkjhfomiaa.GalP
