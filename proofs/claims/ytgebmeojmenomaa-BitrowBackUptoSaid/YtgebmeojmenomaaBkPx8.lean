-- written by mk.sh, a program of this session, over the kit's print
import Derived.Test.YtgebmeojmenomaaBkPx0
import Derived.Test.YtgebmeojmenomaaBkPx2
import Derived.Test.YtgebmeojmenomaaBkPx5
import Derived.Test.YtgebmeojmenomaaBkPx6
import Derived.Test.YtgebmeojmenomaaBkPx7
namespace Go.Proofs.Ytgebmeojmenomaa.P
open Go.RowKit Go.Proofs.YtgebmeojmenomaaW.PrintWords Go.Proofs.YtgebmeojmenomaaW.PrintLast Go.Proofs.YtgebmeojmenomaaW.PrintMore
attribute [local go_sem] max2_int min2_int max_two min_two max_three min_three max_four min_four   -- for this text's walks alone
set_option linter.unusedVariables false
set_option linter.unusedSimpArgs false


end Go.Proofs.Ytgebmeojmenomaa.P
