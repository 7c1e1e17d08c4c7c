/- Fields: lists of elements, values of polynomials, as the program has them; the least polynomial with a root. -/
import Derived.Test.YtdhnjnkjhfomiaaRmQGalS
import Derived.Test.YtdhnjnkjhfomiaaRmPx4
set_option linter.unusedVariables false
set_option linter.unusedSimpArgs false
namespace Go.Proofs.Ytdhnjnkjhfomiaa.Gal
def he (p m a : Nat) (n z : Nat) : Nat := hv p m (bl n z) a
namespace Fi
variable {M P : Nat} (F : Fi M P)
include F
end Fi
end Go.Proofs.Ytdhnjnkjhfomiaa.Gal
namespace Go.Proofs.Ytdhnjnkjhfomiaa.GalP
open Go.RowKit P YtdhnjnkjhfomiaaW.PrintWords YtdhnjnkjhfomiaaW.PrintLast YtdhnjnkjhfomiaaW.PrintMore YtdhnjnkjhfomiaaW.Q
open Gal
end Go.Proofs.Ytdhnjnkjhfomiaa.GalP
