/- Words: make([]T, 0, n): an empty row of one's own, with room. No program in sight. -/
import Derived.Test.YtjdkamhnbheofaaGrQLent
set_option linter.unusedVariables false
set_option linter.unusedSimpArgs false
namespace Go.Proofs.YtjdkamhnbheofaaW.PrintWords
open Go.RowKit
namespace Kd
section
variable {P : Program} {ops : Array Oper} {rest : List Oper} {o : Oper} {a : Act} {W : World} {Q : Exit → Act → World → Prop} {α : Type}
end
end Kd
end Go.Proofs.YtjdkamhnbheofaaW.PrintWords
