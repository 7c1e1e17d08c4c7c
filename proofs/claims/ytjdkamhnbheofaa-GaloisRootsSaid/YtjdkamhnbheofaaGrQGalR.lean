/- Fields: what the document's Two, Inv, Pow, Log say, in plain words. -/
import Derived.Test.YtjdkamhnbheofaaGrQGalM
import Derived.Test.YtjdkamhnbheofaaGrPx17
import Derived.Test.YtjdkamhnbheofaaGrPx17
import Derived.Test.YtjdkamhnbheofaaGrPx13
set_option linter.unusedVariables false
set_option linter.unusedSimpArgs false
namespace Go.Proofs.Ytjdkamhnbheofaa.GalP
open Go.RowKit Go.Proofs.Ytjdkamhnbheofaa.P Go.Proofs.YtjdkamhnbheofaaW.PrintWords Go.Proofs.YtjdkamhnbheofaaW.PrintLast Go.Proofs.YtjdkamhnbheofaaW.PrintMore Go.Proofs.YtjdkamhnbheofaaW.Q
open Go.Proofs.Ytjdkamhnbheofaa.Gal
end Go.Proofs.Ytjdkamhnbheofaa.GalP
