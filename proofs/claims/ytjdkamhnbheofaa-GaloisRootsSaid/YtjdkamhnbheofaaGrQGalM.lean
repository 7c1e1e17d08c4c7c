/- Fields: the document's products (by the whole product and its rest; step by step) are the product of the field. -/
import Derived.Test.YtjdkamhnbheofaaGrQGalP
import Derived.Test.YtjdkamhnbheofaaGrQGalT
import Derived.Test.YtjdkamhnbheofaaGrPx16
import Derived.Test.YtjdkamhnbheofaaGrPx14
import Derived.Test.YtjdkamhnbheofaaGrPx7
import Derived.Laws.BitsAllLaws
set_option linter.unusedVariables false
set_option linter.unusedSimpArgs false
namespace Go.Proofs.Ytjdkamhnbheofaa.Gal
namespace Fi
variable {M P : Nat} (F : Fi M P)
include F
end Fi
end Go.Proofs.Ytjdkamhnbheofaa.Gal
namespace Go.Proofs.Ytjdkamhnbheofaa.GalP
open Go.RowKit Go.Proofs.Ytjdkamhnbheofaa.P Go.Proofs.YtjdkamhnbheofaaW.PrintWords Go.Proofs.YtjdkamhnbheofaaW.PrintLast Go.Proofs.YtjdkamhnbheofaaW.PrintMore Go.Proofs.YtjdkamhnbheofaaW.Q
open Go.Proofs.Ytjdkamhnbheofaa.Gal
end Go.Proofs.Ytjdkamhnbheofaa.GalP
