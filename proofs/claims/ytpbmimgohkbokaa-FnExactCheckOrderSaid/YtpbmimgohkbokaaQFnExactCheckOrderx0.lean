/- FnExactCheckOrder: functions that it reaches, with what they compute and the proof that they do; written by a program of this session (wip/myprint.py). -/
import Derived.Test.YtpbmimgohkbokaaProg
import Derived.Below
import Derived.Deep.Draws
import Derived.Deep.AppendLies
import Derived.Maps.AppendAt
import Derived.OwnWalk
import Derived.Laws.BytesArg
import Derived.Laws.MakeOwn
import Derived.Laws.OwnMore
import Derived.Deep.OwnRows
import Derived.Tactics
import Derived.Lib.ConvBytes
import Derived.Laws.Slices
import Derived.WalkKit
import Derived.KernelRfl
import Derived.RowKit3
import Derived.Deep.LoopGhost
import Derived.Deep.QuietTactic
import Derived.BigQuiet
import Derived.WideLaws
import Derived.Deep.DeepCutAuto
import Derived.Deep.CutBlock
import Derived.Deep.RegionHeld3
import Derived.Laws.Rows
import Derived.Lib.AppendStr
import Derived.ArgAppend
import Derived.Laws.IdiomCopy
import Derived.OrdersHeld
import Derived.Laws.BitsLemmas
import Derived.RowKit
import Derived.Test.YtpbmimgohkbokaaShelf
import Derived.Test.YtpbmimgohkbokaaWWords
import Derived.Test.YtpbmimgohkbokaaWLast
import Derived.Test.YtpbmimgohkbokaaWTab
import Derived.Test.YtpbmimgohkbokaaWFour
import Derived.Test.YtpbmimgohkbokaaWQPut
import Derived.Test.YtpbmimgohkbokaaWApart
import Derived.Test.YtpbmimgohkbokaaWArr
import Derived.Test.YtpbmimgohkbokaaWZeros
import Derived.Test.YtpbmimgohkbokaaWFoot
import Derived.Test.YtpbmimgohkbokaaWKept
import Derived.Test.YtpbmimgohkbokaaWShare
import Derived.Test.YtpbmimgohkbokaaWN
import Derived.Test.YtpbmimgohkbokaaWFootNe
import Derived.Test.YtpbmimgohkbokaaWAt
import Derived.Test.YtpbmimgohkbokaaWEqStruct
import Derived.Test.YtpbmimgohkbokaaWRepsOne
import Derived.Test.YtpbmimgohkbokaaWInv
import Derived.Test.YtpbmimgohkbokaaWInvWords
import Derived.Test.YtpbmimgohkbokaaWGuard
import Derived.Test.YtpbmimgohkbokaaWNEv
import Derived.Test.YtpbmimgohkbokaaWMore
namespace Go.Proofs.Ytpbmimgohkbokaa.QFnExactCheckOrder
open Go.RowKit Go.Proofs.YtpbmimgohkbokaaW.PrintWords Go.Proofs.YtpbmimgohkbokaaW.PrintLast Go.Proofs.YtpbmimgohkbokaaW.PrintMore
attribute [local go_sem] max2_int min2_int max_two min_two max_three min_three max_four min_four   -- for this text's walks alone
set_option linter.unusedVariables false
set_option linter.unusedSimpArgs false



def errW : Option Int → Value
  | none => .nilIface
  | some c => .iface 0 (.int .i64 c)
theorem errW_none : errW none = .nilIface := rfl
theorem errW_some (c : Int) : errW (some c) = .iface 0 (.int .i64 c) := rfl

-- the values' own types

end Go.Proofs.Ytpbmimgohkbokaa.QFnExactCheckOrder
