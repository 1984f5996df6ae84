/- A text of this claim, made small by a program of this session (wip/pack.py): lemmas and contracts that the law's row leans on. -/
import Derived.Test.YtabppnjmdlaohaaGreatDoorProg
import Derived.Below
import Derived.Deep.Draws
import Derived.Deep.AppendLies
import Derived.Maps.AppendAt
import Derived.OwnWalk
import Derived.Laws.BytesArg
import Derived.Laws.MakeOwn
import Derived.Laws.OwnMore
import Derived.Deep.OwnRows
import Derived.Tactics
import Derived.Lib.ConvBytes
import Derived.Laws.Slices
import Derived.WalkKit
import Derived.KernelRfl
import Derived.RowKit3
import Derived.Deep.LoopGhost
import Derived.Deep.QuietTactic
import Derived.BigQuiet
import Derived.WideLaws
import Derived.Deep.DeepCutAuto
import Derived.Deep.CutBlock
import Derived.Deep.RegionHeld3
import Derived.Laws.Rows
import Derived.Lib.AppendStr
import Derived.ArgAppend
import Derived.Laws.IdiomCopy
import Derived.OrdersHeld
import Derived.Laws.BitsLemmas
import Derived.RowKit
import Derived.Test.YtabppnjmdlaohaaGreatDoorZFnSynchronised0
import Derived.Test.YtabppnjmdlaohaaGreatDoorZFnSynchronised1
import Derived.Test.YtabppnjmdlaohaaGreatDoorZFnSynchronised2
import Derived.Test.YtabppnjmdlaohaaGreatDoorZFnSynchronised3
import Derived.Laws.CopyOwn
import Derived.Lib.RowBridge
import Derived.Maps.OwnOps
import Derived.Maps.OwnSet
import Derived.Maps.Views
import Derived.Sort.OwnSorted
import Derived.StillTailTactics
import Derived.Test.YtabppnjmdlaohaaGreatDoorZFnSynchronised4
import Derived.Test.YtabppnjmdlaohaaGreatDoorZFnSynchronised5
import Derived.Test.YtabppnjmdlaohaaGreatDoorZFnSynchronised6
import Derived.Test.YtabppnjmdlaohaaGreatDoorZFnSynchronised7
import Derived.Test.YtabppnjmdlaohaaGreatDoorZFnSynchronised8
import Derived.Test.YtabppnjmdlaohaaGreatDoorZFnSynchronised9
import Derived.Test.YtabppnjmdlaohaaGreatDoorZFnSynchronised10
import Derived.Test.YtabppnjmdlaohaaGreatDoorZFnSynchronised11
import Derived.Test.YtabppnjmdlaohaaGreatDoorZFnSynchronised12
import Derived.Test.YtabppnjmdlaohaaGreatDoorZFnSynchronised13
import Derived.Test.YtabppnjmdlaohaaGreatDoorZFnSynchronised14
import Derived.Test.YtabppnjmdlaohaaGreatDoorZFnSynchronised15
import Derived.Test.YtabppnjmdlaohaaGreatDoorZFnSynchronised16
import Derived.Test.YtabppnjmdlaohaaGreatDoorZFnSynchronised17
import Derived.Test.YtabppnjmdlaohaaGreatDoorZFnSynchronised18
import Derived.Test.YtabppnjmdlaohaaGreatDoorZFnSynchronised19
import Derived.Test.YtabppnjmdlaohaaGreatDoorZFnSynchronised20
import Derived.Test.YtabppnjmdlaohaaGreatDoorZFnSynchronised21
import Derived.Test.YtabppnjmdlaohaaGreatDoorZFnSynchronised22
import Derived.Test.YtabppnjmdlaohaaGreatDoorZFnSynchronised23
import Derived.Test.YtabppnjmdlaohaaGreatDoorZFnSynchronised24
namespace Go.Proofs.YtabppnjmdlaohaaGreatDoor.QFnSynchronised
open Go.RowKit Go.Proofs.YtabppnjmdlaohaaGreatDoorW.PrintWords Go.Proofs.YtabppnjmdlaohaaGreatDoorW.PrintLast Go.Proofs.YtabppnjmdlaohaaGreatDoorW.PrintMore
attribute [local go_sem] max2_int min2_int max_two min_two max_three min_three max_four min_four
set_option linter.unusedVariables false
set_option linter.unusedSimpArgs false
def errW : Option Int → Value
 | none => .nilIface
 | some c => .iface 0 (.int .i64 c)
theorem errW_none : errW none = .nilIface := rfl
theorem errW_some (c : Int) : errW (some c) = .iface 0 (.int .i64 c) := rfl
theorem info2 : (Tryz.prog.info? 2).map (fun i => (i.zero, i.size, i.bytes)) = some (some (.int .i64 0), 1, 8) := by kernel_rfl
theorem info3 : (Tryz.prog.info? 3).map (fun i => (i.zero, i.size, i.bytes)) = some (some (.int .i64 0), 1, 8) := by kernel_rfl
theorem info4 : (Tryz.prog.info? 4).map (fun i => (i.zero, i.size, i.bytes)) = some (some (.bool false), 1, 1) := by kernel_rfl
theorem info5 : (Tryz.prog.info? 5).map (fun i => (i.zero, i.size, i.bytes)) = some (some (.int .u8 0), 1, 1) := by kernel_rfl
theorem info9 : (Tryz.prog.info? 9).map (fun i => (i.zero, i.size, i.bytes)) = some (some (.string ⟨#[]⟩), 1, 16) := by kernel_rfl
theorem info49 : (Tryz.prog.info? 49).map (fun i => (i.zero, i.size, i.bytes)) = some (some (.slice none 0 0), 1, 24) := by kernel_rfl
def rd_L3 (xs : List (List Int)) (i : Int) : (List Int) := xs.getD i.toNat ([] : List Int)
theorem at_L3 {w : World} {A : Option Addr} {n : Nat} {xs : List (List Int)} (h : Kd.C (Kd.slice 3 (Kd.int .i64)) w A n xs) (i : Int) (h0 : 0 ≤ i) (h1 : i < n) : ∃ ad A0 c0, A = some ad ∧ w.cell? (ad.add i.toNat) = some (.slice A0 (rd_L3 xs i).length c0) ∧ (rd_L3 xs i).length ≤ c0 ∧ (Kd.int .i64).C w A0 (rd_L3 xs i).length (rd_L3 xs i) := by
 obtain ⟨ad, c, e, _, hK, hc0⟩ := Kd.C_get h ([] : List Int) i h0 h1
 have hc : ∀ j u, c[j]? = some u → w.cell? (ad.add (i.toNat * 1 + j)) = some u := hc0
 obtain ⟨A0, c0, rfl, l0, g0⟩ := hK
 exact ⟨ad, A0, c0, e, by have hq := hc 0 _ rfl; rwa [Nat.mul_one, Nat.add_zero] at hq, l0, g0⟩
end Go.Proofs.YtabppnjmdlaohaaGreatDoor.QFnSynchronised
