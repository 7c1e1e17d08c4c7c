-- written by mk.sh, a program of this session, over the kit's print
import Derived.Test.YtjdkamhnbheofaaGrPx0
import Derived.Test.YtjdkamhnbheofaaGrPx3
import Derived.Test.YtjdkamhnbheofaaGrPx7
import Derived.Test.YtjdkamhnbheofaaGrPx13
import Derived.Test.YtjdkamhnbheofaaGrPx14
namespace Go.Proofs.Ytjdkamhnbheofaa.P
open Go.RowKit Go.Proofs.YtjdkamhnbheofaaW.PrintWords Go.Proofs.YtjdkamhnbheofaaW.PrintLast Go.Proofs.YtjdkamhnbheofaaW.PrintMore
attribute [local go_sem] max2_int min2_int max_two min_two max_three min_three max_four min_four   -- for this text's walks alone
set_option linter.unusedVariables false
set_option linter.unusedSimpArgs false


end Go.Proofs.Ytjdkamhnbheofaa.P

-- squeezed
