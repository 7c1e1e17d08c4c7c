-- written by mk.sh, a program of this session, over the kit's print
import Derived.Test.YtlmhppgplbefcaaGnPx0
import Derived.Test.YtlmhppgplbefcaaGnPx5
namespace Go.Proofs.Ytlmhppgplbefcaa.P
open Go.RowKit Go.Proofs.YtlmhppgplbefcaaW.PrintWords Go.Proofs.YtlmhppgplbefcaaW.PrintLast Go.Proofs.YtlmhppgplbefcaaW.PrintMore
attribute [local go_sem] max2_int min2_int max_two min_two max_three min_three max_four min_four   -- for this text's walks alone
set_option linter.unusedVariables false
set_option linter.unusedSimpArgs false


end Go.Proofs.Ytlmhppgplbefcaa.P
