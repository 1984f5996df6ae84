/- FnExactShortestMissed: functions that it reaches, with what they compute and the proof that they do; written by a program of this session (wip/myprint.py). -/
import Derived.Test.YthaafdeicgbajaaDoorProg
import Derived.Below
import Derived.Deep.Draws
import Derived.Deep.AppendLies
import Derived.Maps.AppendAt
import Derived.OwnWalk
import Derived.Laws.BytesArg
import Derived.Laws.MakeOwn
import Derived.Laws.OwnMore
import Derived.Deep.OwnRows
import Derived.Tactics
import Derived.Lib.ConvBytes
import Derived.Laws.Slices
import Derived.WalkKit
import Derived.KernelRfl
import Derived.RowKit3
import Derived.Deep.LoopGhost
import Derived.Deep.QuietTactic
import Derived.BigQuiet
import Derived.WideLaws
import Derived.Deep.DeepCutAuto
import Derived.Deep.CutBlock
import Derived.Deep.RegionHeld3
import Derived.Laws.Rows
import Derived.Lib.AppendStr
import Derived.ArgAppend
import Derived.Laws.IdiomCopy
import Derived.OrdersHeld
import Derived.Laws.BitsLemmas
import Derived.RowKit
import Derived.Test.YthaafdeicgbajaaDoorShelf
import Derived.Test.YthaafdeicgbajaaDoorShelfT
import Derived.Test.YthaafdeicgbajaaDoorWWords
import Derived.Test.YthaafdeicgbajaaDoorWLast
import Derived.Test.YthaafdeicgbajaaDoorWTab
import Derived.Test.YthaafdeicgbajaaDoorWFour
import Derived.Test.YthaafdeicgbajaaDoorWQPut
import Derived.Test.YthaafdeicgbajaaDoorWApart
import Derived.Test.YthaafdeicgbajaaDoorWArr
import Derived.Test.YthaafdeicgbajaaDoorWZeros
import Derived.Test.YthaafdeicgbajaaDoorWFoot
import Derived.Test.YthaafdeicgbajaaDoorWKept
import Derived.Test.YthaafdeicgbajaaDoorWShare
import Derived.Test.YthaafdeicgbajaaDoorWN
import Derived.Test.YthaafdeicgbajaaDoorWFootNe
import Derived.Test.YthaafdeicgbajaaDoorWAt
import Derived.Test.YthaafdeicgbajaaDoorWEqStruct
import Derived.Test.YthaafdeicgbajaaDoorWRepsOne
import Derived.Test.YthaafdeicgbajaaDoorWInv
import Derived.Test.YthaafdeicgbajaaDoorWInvWords
import Derived.Test.YthaafdeicgbajaaDoorWGuard
import Derived.Test.YthaafdeicgbajaaDoorWNEv
import Derived.Test.YthaafdeicgbajaaDoorWMore
namespace Go.Proofs.YthaafdeicgbajaaDoor.QFnExactShortestMissed
open Go.RowKit Go.Proofs.YthaafdeicgbajaaDoorW.PrintWords Go.Proofs.YthaafdeicgbajaaDoorW.PrintLast Go.Proofs.YthaafdeicgbajaaDoorW.PrintMore
attribute [local go_sem] max2_int min2_int max_two min_two max_three min_three max_four min_four   -- for this text's walks alone
set_option linter.unusedVariables false
set_option linter.unusedSimpArgs false



def errW : Option Int → Value
  | none => .nilIface
  | some c => .iface 0 (.int .i64 c)
theorem errW_none : errW none = .nilIface := rfl
theorem errW_some (c : Int) : errW (some c) = .iface 0 (.int .i64 c) := rfl

-- the values' own types

end Go.Proofs.YthaafdeicgbajaaDoor.QFnExactShortestMissed
