/- Fields: lists of elements, values of polynomials, as the program has them; the least polynomial with a root. -/
import Derived.Test.YtdhnjnkjhfomiaaRpQGalS
import Derived.Test.YtdhnjnkjhfomiaaRpPx4
set_option linter.unusedVariables false
set_option linter.unusedSimpArgs false
namespace Go.Proofs.Ytdhnjnkjhfomiaa.Gal
def he (p m a : Nat) (n z : Nat) : Nat := hv p m (bl n z) a
namespace Fi
variable {M P : Nat} (F : Fi M P)
include F
end Fi
end Go.Proofs.Ytdhnjnkjhfomiaa.Gal
namespace Go.Proofs.Ytdhnjnkjhfomiaa.GalP
open Go.RowKit Go.Proofs.Ytdhnjnkjhfomiaa.P Go.Proofs.YtdhnjnkjhfomiaaW.PrintWords Go.Proofs.YtdhnjnkjhfomiaaW.PrintLast Go.Proofs.YtdhnjnkjhfomiaaW.PrintMore Go.Proofs.YtdhnjnkjhfomiaaW.Q
open Go.Proofs.Ytdhnjnkjhfomiaa.Gal
end Go.Proofs.Ytdhnjnkjhfomiaa.GalP
