/- Reedsol: the example's code word comes, and is mended. -/
import Derived.Test.YtpgecdidddoglaaRbQRsA
import Derived.Test.YtpgecdidddoglaaRbPx60
set_option linter.unusedVariables false
namespace Go.Proofs.Ytpgecdidddoglaa.GalP
open Go.RowKit Go.Proofs.Ytpgecdidddoglaa.P Go.Proofs.YtpgecdidddoglaaW.PrintWords Go.Proofs.YtpgecdidddoglaaW.PrintLast Go.Proofs.YtpgecdidddoglaaW.PrintMore Go.Proofs.YtpgecdidddoglaaW.Q
open Go.Proofs.Ytpgecdidddoglaa.Gal
theorem knows_f : Ev (fun k => l4_knows.f k) true := l4_knows.ev
end Go.Proofs.Ytpgecdidddoglaa.GalP
