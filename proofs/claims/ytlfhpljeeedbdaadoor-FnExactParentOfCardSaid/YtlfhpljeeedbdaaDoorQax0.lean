-- By gp.py (wip/gen of the work's repo), a program of this workplace over the kit's print: Lean checks it.
import Derived.Test.YtlfhpljeeedbdaaDoorProg
import Derived.Below
import Derived.Deep.Draws
import Derived.Deep.AppendLies
import Derived.Maps.AppendAt
import Derived.OwnWalk
import Derived.Laws.BytesArg
import Derived.Laws.MakeOwn
import Derived.Laws.OwnMore
import Derived.Deep.OwnRows
import Derived.Tactics
import Derived.Lib.ConvBytes
import Derived.Laws.Slices
import Derived.WalkKit
import Derived.KernelRfl
import Derived.RowKit3
import Derived.Deep.LoopGhost
import Derived.Deep.QuietTactic
import Derived.BigQuiet
import Derived.WideLaws
import Derived.Deep.DeepCutAuto
import Derived.Deep.CutBlock
import Derived.Deep.RegionHeld3
import Derived.Laws.Rows
import Derived.Lib.AppendStr
import Derived.ArgAppend
import Derived.Laws.IdiomCopy
import Derived.OrdersHeld
import Derived.Laws.BitsLemmas
import Derived.RowKit
import Derived.WalkSpells
import Derived.Lib.LazyBuf
import Derived.Test.YtlfhpljeeedbdaaDoorShelf
import Derived.Test.YtlfhpljeeedbdaaDoorWWords
import Derived.Test.YtlfhpljeeedbdaaDoorWLast
import Derived.Test.YtlfhpljeeedbdaaDoorWTab
import Derived.Test.YtlfhpljeeedbdaaDoorWFour
import Derived.Test.YtlfhpljeeedbdaaDoorWQPut
import Derived.Test.YtlfhpljeeedbdaaDoorWApart
import Derived.Test.YtlfhpljeeedbdaaDoorWArr
import Derived.Test.YtlfhpljeeedbdaaDoorWZeros
import Derived.Test.YtlfhpljeeedbdaaDoorWFoot
import Derived.Test.YtlfhpljeeedbdaaDoorWKept
import Derived.Test.YtlfhpljeeedbdaaDoorWShare
import Derived.Test.YtlfhpljeeedbdaaDoorWN
import Derived.Test.YtlfhpljeeedbdaaDoorWFootNe
import Derived.Test.YtlfhpljeeedbdaaDoorWAt
import Derived.Test.YtlfhpljeeedbdaaDoorWEqStruct
import Derived.Test.YtlfhpljeeedbdaaDoorWRepsOne
import Derived.Test.YtlfhpljeeedbdaaDoorWInv
import Derived.Test.YtlfhpljeeedbdaaDoorWInvWords
import Derived.Test.YtlfhpljeeedbdaaDoorWGuard
import Derived.Test.YtlfhpljeeedbdaaDoorWNEv
import Derived.Test.YtlfhpljeeedbdaaDoorWMore
namespace Go.Proofs.YtlfhpljeeedbdaaDoor.Qa
open Go.RowKit Go.Proofs.YtlfhpljeeedbdaaDoorW.PrintWords Go.Proofs.YtlfhpljeeedbdaaDoorW.PrintLast Go.Proofs.YtlfhpljeeedbdaaDoorW.PrintMore
attribute [local go_sem] max2_int min2_int max_two min_two max_three min_three max_four min_four   -- for this text's walks alone
set_option linter.unusedVariables false
set_option linter.unusedSimpArgs false



def errW : Option Int → Value
  | none => .nilIface
  | some c => .iface 0 (.int .i64 c)
theorem errW_none : errW none = .nilIface := rfl
theorem errW_some (c : Int) : errW (some c) = .iface 0 (.int .i64 c) := rfl

theorem info9 : (Tryd.prog.info? 9).map (fun i => (i.zero, i.size, i.bytes)) = some (some (.string ⟨#[]⟩), 1, 16) := by kernel_rfl
-- the values' own types

end Go.Proofs.YtlfhpljeeedbdaaDoor.Qa
