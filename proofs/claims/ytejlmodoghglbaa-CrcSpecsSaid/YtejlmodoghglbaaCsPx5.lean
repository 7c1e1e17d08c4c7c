-- written by mk.sh, a program of this session, over the kit's print
import Derived.Test.YtejlmodoghglbaaCsPx0
namespace Go.Proofs.Ytejlmodoghglbaa.P
open Go.RowKit Go.Proofs.YtejlmodoghglbaaW.PrintWords Go.Proofs.YtejlmodoghglbaaW.PrintLast Go.Proofs.YtejlmodoghglbaaW.PrintMore
attribute [local go_sem] max2_int min2_int max_two min_two max_three min_three max_four min_four   -- for this text's walks alone
set_option linter.unusedVariables false
set_option linter.unusedSimpArgs false


end Go.Proofs.Ytejlmodoghglbaa.P
