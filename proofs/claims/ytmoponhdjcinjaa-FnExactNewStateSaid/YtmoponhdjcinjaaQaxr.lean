-- By gp.py (wip/gen of the work's repo), a program of this workplace over the kit's print: Lean checks it.
import Derived.Test.YtmoponhdjcinjaaQax0
import Derived.Test.YtmoponhdjcinjaaTro
namespace Go.Proofs.Ytmoponhdjcinjaa.Qa
open Go.RowKit Go.Proofs.YtmoponhdjcinjaaW.PrintWords Go.Proofs.YtmoponhdjcinjaaW.PrintLast Go.Proofs.YtmoponhdjcinjaaW.PrintMore Go.ChangeShapes Go.WideShapes Go.Proofs.Ytmoponhdjcinjaa.Tro
attribute [local go_sem] max2_int min2_int max_two min_two max_three min_three max_four min_four   -- for this text's walks alone
set_option linter.unusedVariables false
set_option linter.unusedSimpArgs false

end Go.Proofs.Ytmoponhdjcinjaa.Qa
