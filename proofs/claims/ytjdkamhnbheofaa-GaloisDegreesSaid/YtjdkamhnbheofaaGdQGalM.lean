/- Fields: the document's products (by the whole product and its rest; step by step) are the product of the field. -/
import Derived.Test.YtjdkamhnbheofaaGdQGalP
import Derived.Test.YtjdkamhnbheofaaGdQGalT
import Derived.Test.YtjdkamhnbheofaaGdPx16
import Derived.Test.YtjdkamhnbheofaaGdPx14
import Derived.Test.YtjdkamhnbheofaaGdPx7
import Derived.Laws.BitsAllLaws
set_option linter.unusedVariables false
set_option linter.unusedSimpArgs false
namespace Go.Proofs.Ytjdkamhnbheofaa.Gal
namespace Fi
variable {M P : Nat} (F : Fi M P)
include F
end Fi
end Go.Proofs.Ytjdkamhnbheofaa.Gal
namespace Go.Proofs.Ytjdkamhnbheofaa.GalP
open Go.RowKit Go.Proofs.Ytjdkamhnbheofaa.P Go.Proofs.YtjdkamhnbheofaaW.PrintWords Go.Proofs.YtjdkamhnbheofaaW.PrintLast Go.Proofs.YtjdkamhnbheofaaW.PrintMore Go.Proofs.YtjdkamhnbheofaaW.Q
open Go.Proofs.Ytjdkamhnbheofaa.Gal
end Go.Proofs.Ytjdkamhnbheofaa.GalP
