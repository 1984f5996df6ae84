/- FnExactBlockInterleave: functions that it reaches, with what they compute and the proof that they do; written by a program of this session (wip/myprint.py). -/
import Derived.Test.YtbgiddnffchnpaaDoorProg
import Derived.Below
import Derived.Deep.Draws
import Derived.Deep.AppendLies
import Derived.Maps.AppendAt
import Derived.OwnWalk
import Derived.Laws.BytesArg
import Derived.Laws.MakeOwn
import Derived.Laws.OwnMore
import Derived.Deep.OwnRows
import Derived.Tactics
import Derived.Lib.ConvBytes
import Derived.Laws.Slices
import Derived.WalkKit
import Derived.KernelRfl
import Derived.RowKit3
import Derived.Deep.LoopGhost
import Derived.Deep.QuietTactic
import Derived.BigQuiet
import Derived.WideLaws
import Derived.Deep.DeepCutAuto
import Derived.Deep.CutBlock
import Derived.Deep.RegionHeld3
import Derived.Laws.Rows
import Derived.Lib.AppendStr
import Derived.ArgAppend
import Derived.Laws.IdiomCopy
import Derived.OrdersHeld
import Derived.Laws.BitsLemmas
import Derived.RowKit
import Derived.Test.YtbgiddnffchnpaaDoorShelf
import Derived.Test.YtbgiddnffchnpaaDoorWWords
import Derived.Test.YtbgiddnffchnpaaDoorWLast
import Derived.Test.YtbgiddnffchnpaaDoorWTab
import Derived.Test.YtbgiddnffchnpaaDoorWFour
import Derived.Test.YtbgiddnffchnpaaDoorWQPut
import Derived.Test.YtbgiddnffchnpaaDoorWApart
import Derived.Test.YtbgiddnffchnpaaDoorWArr
import Derived.Test.YtbgiddnffchnpaaDoorWZeros
import Derived.Test.YtbgiddnffchnpaaDoorWFoot
import Derived.Test.YtbgiddnffchnpaaDoorWKept
import Derived.Test.YtbgiddnffchnpaaDoorWShare
import Derived.Test.YtbgiddnffchnpaaDoorWN
import Derived.Test.YtbgiddnffchnpaaDoorWFootNe
import Derived.Test.YtbgiddnffchnpaaDoorWAt
import Derived.Test.YtbgiddnffchnpaaDoorWEqStruct
import Derived.Test.YtbgiddnffchnpaaDoorWRepsOne
import Derived.Test.YtbgiddnffchnpaaDoorWInv
import Derived.Test.YtbgiddnffchnpaaDoorWInvWords
import Derived.Test.YtbgiddnffchnpaaDoorWGuard
import Derived.Test.YtbgiddnffchnpaaDoorWNEv
import Derived.Test.YtbgiddnffchnpaaDoorWMore
namespace Go.Proofs.YtbgiddnffchnpaaDoor.QFnExactBlockInterleave
open Go.RowKit Go.Proofs.YtbgiddnffchnpaaDoorW.PrintWords Go.Proofs.YtbgiddnffchnpaaDoorW.PrintLast Go.Proofs.YtbgiddnffchnpaaDoorW.PrintMore
attribute [local go_sem] max2_int min2_int max_two min_two max_three min_three max_four min_four   -- for this text's walks alone
set_option linter.unusedVariables false
set_option linter.unusedSimpArgs false



def errW : Option Int → Value
  | none => .nilIface
  | some c => .iface 0 (.int .i64 c)
theorem errW_none : errW none = .nilIface := rfl
theorem errW_some (c : Int) : errW (some c) = .iface 0 (.int .i64 c) := rfl

theorem info5 : (Tryd.prog.info? 5).map (fun i => (i.zero, i.size, i.bytes)) = some (some (.int .u8 0), 1, 1) := by kernel_rfl
-- the values' own types

end Go.Proofs.YtbgiddnffchnpaaDoor.QFnExactBlockInterleave
