-- Written by wip/tools/xprint.py out of the translation (the kit's printer with contracts of this session's own). Lean checks it.
import Derived.Test.YtkkndcfflmealaaDoorProg
import Derived.Below
import Derived.Deep.Draws
import Derived.Deep.AppendLies
import Derived.Maps.AppendAt
import Derived.OwnWalk
import Derived.Laws.BytesArg
import Derived.Laws.MakeOwn
import Derived.Laws.OwnMore
import Derived.Deep.OwnRows
import Derived.Tactics
import Derived.Lib.ConvBytes
import Derived.Laws.Slices
import Derived.WalkKit
import Derived.KernelRfl
import Derived.RowKit3
import Derived.Deep.LoopGhost
import Derived.Deep.QuietTactic
import Derived.BigQuiet
import Derived.WideLaws
import Derived.Deep.DeepCutAuto
import Derived.Deep.CutBlock
import Derived.Deep.RegionHeld3
import Derived.Laws.Rows
import Derived.Lib.AppendStr
import Derived.ArgAppend
import Derived.Laws.IdiomCopy
import Derived.OrdersHeld
import Derived.Laws.BitsLemmas
import Derived.RowKit
import Derived.Test.YtkkndcfflmealaaDoorShelf
import Derived.Test.YtkkndcfflmealaaDoorEnv
import Derived.Test.YtkkndcfflmealaaDoorNum
import Derived.Test.YtkkndcfflmealaaDoorWWords
import Derived.Test.YtkkndcfflmealaaDoorWLast
import Derived.Test.YtkkndcfflmealaaDoorWTab
import Derived.Test.YtkkndcfflmealaaDoorWFour
import Derived.Test.YtkkndcfflmealaaDoorWQPut
import Derived.Test.YtkkndcfflmealaaDoorWApart
import Derived.Test.YtkkndcfflmealaaDoorWArr
import Derived.Test.YtkkndcfflmealaaDoorWZeros
import Derived.Test.YtkkndcfflmealaaDoorWFoot
import Derived.Test.YtkkndcfflmealaaDoorWKept
import Derived.Test.YtkkndcfflmealaaDoorWShare
import Derived.Test.YtkkndcfflmealaaDoorWN
import Derived.Test.YtkkndcfflmealaaDoorWFootNe
import Derived.Test.YtkkndcfflmealaaDoorWAt
import Derived.Test.YtkkndcfflmealaaDoorWEqStruct
import Derived.Test.YtkkndcfflmealaaDoorWRepsOne
import Derived.Test.YtkkndcfflmealaaDoorWInv
import Derived.Test.YtkkndcfflmealaaDoorWInvWords
import Derived.Test.YtkkndcfflmealaaDoorWGuard
import Derived.Test.YtkkndcfflmealaaDoorWNEv
import Derived.Test.YtkkndcfflmealaaDoorWMore
namespace Go.Proofs.YtkkndcfflmealaaDoor.X27
open Go.RowKit Go.Proofs.YtkkndcfflmealaaDoorW.PrintWords Go.Proofs.YtkkndcfflmealaaDoorW.PrintLast Go.Proofs.YtkkndcfflmealaaDoorW.PrintMore
attribute [local go_sem] max2_int min2_int max_two min_two max_three min_three max_four min_four   -- for this text's walks alone
set_option linter.unusedVariables false
set_option linter.unusedSimpArgs false



def errW : Option Int → Value
  | none => .nilIface
  | some c => .iface 0 (.int .i64 c)
theorem errW_none : errW none = .nilIface := rfl
theorem errW_some (c : Int) : errW (some c) = .iface 0 (.int .i64 c) := rfl

theorem info5 : (Tryd.prog.info? 5).map (fun i => (i.zero, i.size, i.bytes)) = some (some (.int .u8 0), 1, 1) := by kernel_rfl
-- the values' own types

end Go.Proofs.YtkkndcfflmealaaDoor.X27
