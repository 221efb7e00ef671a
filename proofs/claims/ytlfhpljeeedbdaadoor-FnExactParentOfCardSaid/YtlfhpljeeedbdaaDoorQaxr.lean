-- By gp.py (wip/gen of the work's repo), a program of this workplace over the kit's print: Lean checks it.
import Derived.Test.YtlfhpljeeedbdaaDoorQax0
import Derived.Test.YtlfhpljeeedbdaaDoorTro
namespace Go.Proofs.YtlfhpljeeedbdaaDoor.Qa
open Go.RowKit Go.Proofs.YtlfhpljeeedbdaaDoorW.PrintWords Go.Proofs.YtlfhpljeeedbdaaDoorW.PrintLast Go.Proofs.YtlfhpljeeedbdaaDoorW.PrintMore Go.ChangeShapes Go.WideShapes Go.Proofs.YtlfhpljeeedbdaaDoor.Tro
attribute [local go_sem] max2_int min2_int max_two min_two max_three min_three max_four min_four   -- for this text's walks alone
set_option linter.unusedVariables false
set_option linter.unusedSimpArgs false

end Go.Proofs.YtlfhpljeeedbdaaDoor.Qa
