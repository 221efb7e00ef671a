-- By gp.py (wip/gen of the work's repo), a program of this workplace over the kit's print: Lean checks it.
import Derived.Test.YtdhmohidnidnfaaQbx0
import Derived.Test.YtdhmohidnidnfaaTro
namespace Go.Proofs.Ytdhmohidnidnfaa.Qb
open Go.RowKit Go.Proofs.YtdhmohidnidnfaaW.PrintWords Go.Proofs.YtdhmohidnidnfaaW.PrintLast Go.Proofs.YtdhmohidnidnfaaW.PrintMore Go.ChangeShapes Go.WideShapes Go.Proofs.Ytdhmohidnidnfaa.Tro
attribute [local go_sem] max2_int min2_int max_two min_two max_three min_three max_four min_four   -- for this text's walks alone
set_option linter.unusedVariables false
set_option linter.unusedSimpArgs false

end Go.Proofs.Ytdhmohidnidnfaa.Qb
