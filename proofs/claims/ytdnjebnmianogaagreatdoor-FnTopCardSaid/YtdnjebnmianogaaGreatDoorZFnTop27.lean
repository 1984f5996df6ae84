/- Made small by wip/pack.py: lemmas and contracts that the law's row leans on. -/
import Derived.Test.YtdnjebnmianogaaGreatDoorProg
import Derived.Below
import Derived.Deep.Draws
import Derived.Deep.AppendLies
import Derived.Maps.AppendAt
import Derived.OwnWalk
import Derived.Laws.BytesArg
import Derived.Laws.MakeOwn
import Derived.Laws.OwnMore
import Derived.Deep.OwnRows
import Derived.Tactics
import Derived.Lib.ConvBytes
import Derived.Laws.Slices
import Derived.WalkKit
import Derived.KernelRfl
import Derived.RowKit3
import Derived.Deep.LoopGhost
import Derived.Deep.QuietTactic
import Derived.BigQuiet
import Derived.WideLaws
import Derived.Deep.DeepCutAuto
import Derived.Deep.CutBlock
import Derived.Deep.RegionHeld3
import Derived.Laws.Rows
import Derived.Lib.AppendStr
import Derived.ArgAppend
import Derived.Laws.IdiomCopy
import Derived.OrdersHeld
import Derived.Laws.BitsLemmas
import Derived.RowKit
import Derived.Test.YtdnjebnmianogaaGreatDoorZFnTop0
import Derived.Test.YtdnjebnmianogaaGreatDoorZFnTop13
import Derived.Test.YtdnjebnmianogaaGreatDoorZFnTop14
import Derived.Test.YtdnjebnmianogaaGreatDoorZFnTop15
import Derived.Test.YtdnjebnmianogaaGreatDoorZFnTop16
import Derived.Test.YtdnjebnmianogaaGreatDoorZFnTop17
import Derived.BigQuiet
import Derived.Deep.DeepCutAuto
import Derived.Deep.RegionHeld3
import Derived.Deep.RegionWith
import Derived.IntWalk
import Derived.Laws.CopyOwn
import Derived.Laws.Cover1
import Derived.Lib.AppendIntMem
import Derived.Lib.IndexBytes
import Derived.Lib.SplitLaws
import Derived.Maps.OwnOps
import Derived.Maps.OwnSet
import Derived.Maps.Views
import Derived.Shelf.Spec.SlicesInsert
import Derived.Shelf.Spec.SlicesInsertGrow
import Derived.Shelf.Strconv.ParseIntPublic10
import Derived.Shelf.Strings.BuilderK
import Derived.Shelf.Strings.Count
import Derived.Shelf.Strings.Search2
import Derived.Shelf.Strings.SplitCore
import Derived.Sort.OwnSorted
import Derived.StillTailTactics
import Derived.Test.YtdnjebnmianogaaGreatDoorZFnTop1
import Derived.Test.YtdnjebnmianogaaGreatDoorZFnTop2
import Derived.Test.YtdnjebnmianogaaGreatDoorZFnTop18
import Derived.Test.YtdnjebnmianogaaGreatDoorZFnTop19
import Derived.Test.YtdnjebnmianogaaGreatDoorZFnTop3
import Derived.Test.YtdnjebnmianogaaGreatDoorZFnTop4
import Derived.Test.YtdnjebnmianogaaGreatDoorZFnTop5
import Derived.Test.YtdnjebnmianogaaGreatDoorZFnTop6
import Derived.Test.YtdnjebnmianogaaGreatDoorZFnTop7
import Derived.Test.YtdnjebnmianogaaGreatDoorZFnTop8
import Derived.Test.YtdnjebnmianogaaGreatDoorZFnTop9
import Derived.Test.YtdnjebnmianogaaGreatDoorZFnTop10
import Derived.Test.YtdnjebnmianogaaGreatDoorZFnTop20
import Derived.Test.YtdnjebnmianogaaGreatDoorZFnTop21
import Derived.Test.YtdnjebnmianogaaGreatDoorZFnTop22
import Derived.Test.YtdnjebnmianogaaGreatDoorZFnTop23
import Derived.Test.YtdnjebnmianogaaGreatDoorZFnTop24
import Derived.Test.YtdnjebnmianogaaGreatDoorZFnTop25
import Derived.Test.YtdnjebnmianogaaGreatDoorZFnTop26
import Derived.Test.YtdnjebnmianogaaGreatDoorZFnTop11
import Derived.Test.YtdnjebnmianogaaGreatDoorZFnTop12
namespace Go.Proofs.YtdnjebnmianogaaGreatDoor.QFnTop
open Go.RowKit Go.Proofs.YtdnjebnmianogaaGreatDoorW.PrintWords Go.Proofs.YtdnjebnmianogaaGreatDoorW.PrintLast Go.Proofs.YtdnjebnmianogaaGreatDoorW.PrintMore
attribute [local go_sem] max2_int min2_int max_two min_two max_three min_three max_four min_four
set_option linter.unusedVariables false
set_option linter.unusedSimpArgs false
def errW : Option Int → Value
 | none => .nilIface
 | some c => .iface 0 (.int .i64 c)
theorem errW_none : errW none = .nilIface := rfl
theorem errW_some (c : Int) : errW (some c) = .iface 0 (.int .i64 c) := rfl
theorem info2 : (Tryz.prog.info? 2).map (fun i => (i.zero, i.size, i.bytes)) = some (some (.int .i64 0), 1, 8) := by kernel_rfl
theorem info5 : (Tryz.prog.info? 5).map (fun i => (i.zero, i.size, i.bytes)) = some (some (.int .u8 0), 1, 1) := by kernel_rfl
theorem info9 : (Tryz.prog.info? 9).map (fun i => (i.zero, i.size, i.bytes)) = some (some (.string ⟨#[]⟩), 1, 16) := by kernel_rfl
end Go.Proofs.YtdnjebnmianogaaGreatDoor.QFnTop
