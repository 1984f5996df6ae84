/- Made small by wip/pack.py: lemmas and contracts that the law's row leans on. -/
import Derived.Test.YtbjmbfjbjkhhdaaGreatDoorProg
import Derived.Below
import Derived.Deep.Draws
import Derived.Deep.AppendLies
import Derived.Maps.AppendAt
import Derived.OwnWalk
import Derived.Laws.BytesArg
import Derived.Laws.MakeOwn
import Derived.Laws.OwnMore
import Derived.Deep.OwnRows
import Derived.Tactics
import Derived.Lib.ConvBytes
import Derived.Laws.Slices
import Derived.WalkKit
import Derived.KernelRfl
import Derived.RowKit3
import Derived.Deep.LoopGhost
import Derived.Deep.QuietTactic
import Derived.BigQuiet
import Derived.WideLaws
import Derived.Deep.DeepCutAuto
import Derived.Deep.CutBlock
import Derived.Deep.RegionHeld3
import Derived.Laws.Rows
import Derived.Lib.AppendStr
import Derived.ArgAppend
import Derived.Laws.IdiomCopy
import Derived.OrdersHeld
import Derived.Laws.BitsLemmas
import Derived.RowKit
import Derived.Test.YtbjmbfjbjkhhdaaGreatDoorZFnTopOfAll0
import Derived.Test.YtbjmbfjbjkhhdaaGreatDoorZFnTopOfAll13
import Derived.Test.YtbjmbfjbjkhhdaaGreatDoorZFnTopOfAll14
import Derived.Test.YtbjmbfjbjkhhdaaGreatDoorZFnTopOfAll15
import Derived.Test.YtbjmbfjbjkhhdaaGreatDoorZFnTopOfAll16
import Derived.Test.YtbjmbfjbjkhhdaaGreatDoorZFnTopOfAll17
import Derived.BigQuiet
import Derived.Deep.DeepCutAuto
import Derived.Deep.RegionHeld3
import Derived.Deep.RegionWith
import Derived.IntWalk
import Derived.Laws.CopyOwn
import Derived.Laws.Cover1
import Derived.Lib.AppendIntMem
import Derived.Lib.IndexBytes
import Derived.Lib.SplitLaws
import Derived.Maps.OwnOps
import Derived.Maps.OwnSet
import Derived.Maps.Views
import Derived.Shelf.Spec.SlicesInsert
import Derived.Shelf.Spec.SlicesInsertGrow
import Derived.Shelf.Strconv.ParseIntPublic10
import Derived.Shelf.Strings.BuilderK
import Derived.Shelf.Strings.Count
import Derived.Shelf.Strings.Search2
import Derived.Shelf.Strings.SplitCore
import Derived.Sort.OwnSorted
import Derived.StillTailTactics
import Derived.Test.YtbjmbfjbjkhhdaaGreatDoorZFnTopOfAll1
import Derived.Test.YtbjmbfjbjkhhdaaGreatDoorZFnTopOfAll2
import Derived.Test.YtbjmbfjbjkhhdaaGreatDoorZFnTopOfAll18
import Derived.Test.YtbjmbfjbjkhhdaaGreatDoorZFnTopOfAll19
import Derived.Test.YtbjmbfjbjkhhdaaGreatDoorZFnTopOfAll3
import Derived.Test.YtbjmbfjbjkhhdaaGreatDoorZFnTopOfAll4
import Derived.Test.YtbjmbfjbjkhhdaaGreatDoorZFnTopOfAll5
import Derived.Test.YtbjmbfjbjkhhdaaGreatDoorZFnTopOfAll6
import Derived.Test.YtbjmbfjbjkhhdaaGreatDoorZFnTopOfAll7
import Derived.Test.YtbjmbfjbjkhhdaaGreatDoorZFnTopOfAll8
import Derived.Test.YtbjmbfjbjkhhdaaGreatDoorZFnTopOfAll9
import Derived.Test.YtbjmbfjbjkhhdaaGreatDoorZFnTopOfAll10
import Derived.Test.YtbjmbfjbjkhhdaaGreatDoorZFnTopOfAll20
import Derived.Test.YtbjmbfjbjkhhdaaGreatDoorZFnTopOfAll21
import Derived.Test.YtbjmbfjbjkhhdaaGreatDoorZFnTopOfAll22
import Derived.Test.YtbjmbfjbjkhhdaaGreatDoorZFnTopOfAll23
import Derived.Test.YtbjmbfjbjkhhdaaGreatDoorZFnTopOfAll24
import Derived.Test.YtbjmbfjbjkhhdaaGreatDoorZFnTopOfAll25
import Derived.Test.YtbjmbfjbjkhhdaaGreatDoorZFnTopOfAll26
import Derived.Test.YtbjmbfjbjkhhdaaGreatDoorZFnTopOfAll11
import Derived.Test.YtbjmbfjbjkhhdaaGreatDoorZFnTopOfAll12
namespace Go.Proofs.YtbjmbfjbjkhhdaaGreatDoor.QFnTopOfAll
open Go.RowKit Go.Proofs.YtbjmbfjbjkhhdaaGreatDoorW.PrintWords Go.Proofs.YtbjmbfjbjkhhdaaGreatDoorW.PrintLast Go.Proofs.YtbjmbfjbjkhhdaaGreatDoorW.PrintMore
attribute [local go_sem] max2_int min2_int max_two min_two max_three min_three max_four min_four
set_option linter.unusedVariables false
set_option linter.unusedSimpArgs false
def errW : Option Int → Value
 | none => .nilIface
 | some c => .iface 0 (.int .i64 c)
theorem errW_none : errW none = .nilIface := rfl
theorem errW_some (c : Int) : errW (some c) = .iface 0 (.int .i64 c) := rfl
theorem info2 : (Tryz.prog.info? 2).map (fun i => (i.zero, i.size, i.bytes)) = some (some (.int .i64 0), 1, 8) := by kernel_rfl
theorem info5 : (Tryz.prog.info? 5).map (fun i => (i.zero, i.size, i.bytes)) = some (some (.int .u8 0), 1, 1) := by kernel_rfl
theorem info9 : (Tryz.prog.info? 9).map (fun i => (i.zero, i.size, i.bytes)) = some (some (.string ⟨#[]⟩), 1, 16) := by kernel_rfl
end Go.Proofs.YtbjmbfjbjkhhdaaGreatDoor.QFnTopOfAll
