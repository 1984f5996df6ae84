/- FnLevelled: functions that it reaches, with what they compute and the proof that they do; written by a program of this session (wip/myprint.py). -/
import Derived.Test.YtgofcgjpmiojjaaDoorProg
import Derived.Below
import Derived.Deep.Draws
import Derived.Deep.AppendLies
import Derived.Maps.AppendAt
import Derived.OwnWalk
import Derived.Laws.BytesArg
import Derived.Laws.MakeOwn
import Derived.Laws.OwnMore
import Derived.Deep.OwnRows
import Derived.Tactics
import Derived.Lib.ConvBytes
import Derived.Laws.Slices
import Derived.WalkKit
import Derived.KernelRfl
import Derived.RowKit3
import Derived.Deep.LoopGhost
import Derived.Deep.QuietTactic
import Derived.BigQuiet
import Derived.WideLaws
import Derived.Deep.DeepCutAuto
import Derived.Deep.CutBlock
import Derived.Deep.RegionHeld3
import Derived.Laws.Rows
import Derived.Lib.AppendStr
import Derived.ArgAppend
import Derived.Laws.IdiomCopy
import Derived.OrdersHeld
import Derived.Laws.BitsLemmas
import Derived.RowKit
import Derived.Test.YtgofcgjpmiojjaaDoorShelf
import Derived.Test.YtgofcgjpmiojjaaDoorWWords
import Derived.Test.YtgofcgjpmiojjaaDoorWLast
import Derived.Test.YtgofcgjpmiojjaaDoorWTab
import Derived.Test.YtgofcgjpmiojjaaDoorWFour
import Derived.Test.YtgofcgjpmiojjaaDoorWQPut
import Derived.Test.YtgofcgjpmiojjaaDoorWApart
import Derived.Test.YtgofcgjpmiojjaaDoorWArr
import Derived.Test.YtgofcgjpmiojjaaDoorWZeros
import Derived.Test.YtgofcgjpmiojjaaDoorWFoot
import Derived.Test.YtgofcgjpmiojjaaDoorWKept
import Derived.Test.YtgofcgjpmiojjaaDoorWShare
import Derived.Test.YtgofcgjpmiojjaaDoorWN
import Derived.Test.YtgofcgjpmiojjaaDoorWFootNe
import Derived.Test.YtgofcgjpmiojjaaDoorWAt
import Derived.Test.YtgofcgjpmiojjaaDoorWEqStruct
import Derived.Test.YtgofcgjpmiojjaaDoorWRepsOne
import Derived.Test.YtgofcgjpmiojjaaDoorWInv
import Derived.Test.YtgofcgjpmiojjaaDoorWInvWords
import Derived.Test.YtgofcgjpmiojjaaDoorWGuard
import Derived.Test.YtgofcgjpmiojjaaDoorWNEv
import Derived.Test.YtgofcgjpmiojjaaDoorWMore
namespace Go.Proofs.YtgofcgjpmiojjaaDoor.QFnLevelled
open Go.RowKit Go.Proofs.YtgofcgjpmiojjaaDoorW.PrintWords Go.Proofs.YtgofcgjpmiojjaaDoorW.PrintLast Go.Proofs.YtgofcgjpmiojjaaDoorW.PrintMore
attribute [local go_sem] max2_int min2_int max_two min_two max_three min_three max_four min_four   -- for this text's walks alone
set_option linter.unusedVariables false
set_option linter.unusedSimpArgs false



def errW : Option Int → Value
  | none => .nilIface
  | some c => .iface 0 (.int .i64 c)
theorem errW_none : errW none = .nilIface := rfl
theorem errW_some (c : Int) : errW (some c) = .iface 0 (.int .i64 c) := rfl

theorem info2 : (Tryd.prog.info? 2).map (fun i => (i.zero, i.size, i.bytes)) = some (some (.int .i64 0), 1, 8) := by kernel_rfl
theorem info5 : (Tryd.prog.info? 5).map (fun i => (i.zero, i.size, i.bytes)) = some (some (.int .u8 0), 1, 1) := by kernel_rfl
-- the values' own types

end Go.Proofs.YtgofcgjpmiojjaaDoor.QFnLevelled
