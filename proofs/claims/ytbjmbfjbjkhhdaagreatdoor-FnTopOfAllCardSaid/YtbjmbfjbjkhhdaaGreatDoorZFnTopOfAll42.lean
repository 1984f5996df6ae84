/- Made small by wip/pack.py: lemmas and contracts that the law's row leans on. -/
import Derived.Test.YtbjmbfjbjkhhdaaGreatDoorZFnTopOfAll27
import Derived.Test.YtbjmbfjbjkhhdaaGreatDoorZFnTopOfAll29
import Derived.Test.YtbjmbfjbjkhhdaaGreatDoorZFnTopOfAll30
import Derived.Test.YtbjmbfjbjkhhdaaGreatDoorZFnTopOfAll31
import Derived.Test.YtbjmbfjbjkhhdaaGreatDoorZFnTopOfAll33
import Derived.Test.YtbjmbfjbjkhhdaaGreatDoorZFnTopOfAll34
import Derived.Test.YtbjmbfjbjkhhdaaGreatDoorZFnTopOfAll35
import Derived.Test.YtbjmbfjbjkhhdaaGreatDoorZFnTopOfAll36
import Derived.Test.YtbjmbfjbjkhhdaaGreatDoorZFnTopOfAll37
import Derived.Test.YtbjmbfjbjkhhdaaGreatDoorZFnTopOfAll41
namespace Go.Proofs.YtbjmbfjbjkhhdaaGreatDoor.QFnTopOfAll
open Go.RowKit Go.Proofs.YtbjmbfjbjkhhdaaGreatDoorW.PrintWords Go.Proofs.YtbjmbfjbjkhhdaaGreatDoorW.PrintLast Go.Proofs.YtbjmbfjbjkhhdaaGreatDoorW.PrintMore
attribute [local go_sem] max2_int min2_int max_two min_two max_three min_three max_four min_four
set_option linter.unusedVariables false
set_option linter.unusedSimpArgs false
mutual
def laws_FnTopOfAll.j0 : Nat → List Int → Int → Int → ByteArray → Bool → ByteArray → Int → Bool → Bool → Option (Bool)
 | 0, _, _, _, _, _, _, _, _, _ => none
 | k + 1, x0, x1, x2, x9, x10, x11, x12, x13, x83 => if x83 = true then (some false) else ((spec_ListText.f k x0).bind fun bt335 => (if (x10 != bt335.2) = true then (some false) else (if x10 = true then (laws_FnTopOfAll.j1 k x1 x2 x9 x11 x12 (!x13)) else (laws_FnTopOfAll.j1 k x1 x2 x9 x11 x12 true))))
def laws_FnTopOfAll.j1 : Nat → Int → Int → ByteArray → ByteArray → Int → Bool → Option (Bool)
 | 0, _, _, _, _, _, _ => none
 | k + 1, x1, x2, x9, x11, x12, x97 => if x97 = true then (some true) else (if x11.toList = ([] : List UInt8) then (laws_FnTopOfAll.j2 k x1 x2 x9 x11 x12 (wrap64 ((x11.size : Int) / 4)) (⟨#[110, 111, 110, 101]⟩ : ByteArray)) else (laws_FnTopOfAll.j2 k x1 x2 x9 x11 x12 (wrap64 ((x11.size : Int) / 4)) x11))
def laws_FnTopOfAll.j2 : Nat → Int → Int → ByteArray → ByteArray → Int → Int → ByteArray → Option (Bool)
 | 0, _, _, _, _, _, _, _ => none
 | k + 1, x1, x2, x9, x11, x12, x19, x20 => (impl_Decimal.f x12).bind fun t337 => (if t337.size + 1 ≤ 9223372036854775807 then (if (t337 ++ (⟨#[10]⟩ : ByteArray)).size + x20.size ≤ 9223372036854775807 then (if ((t337 ++ (⟨#[10]⟩ : ByteArray)) ++ x20).size + 1 ≤ 9223372036854775807 then (if (((t337 ++ (⟨#[10]⟩ : ByteArray)) ++ x20) ++ (⟨#[10]⟩ : ByteArray)).size + x9.size ≤ 9223372036854775807 then (if ((((t337 ++ (⟨#[10]⟩ : ByteArray)) ++ x20) ++ (⟨#[10]⟩ : ByteArray)) ++ x9).size + 6 ≤ 9223372036854775807 then (if 16 + x9.size ≤ 9223372036854775807 then (if ((⟨#[98, 108, 111, 99, 107, 115, 32, 120, 32, 50, 32, 52, 32, 45, 49, 32]⟩ : ByteArray) ++ x9).size + 22 ≤ 9223372036854775807 then (if x19 > 0 then ((impl_BlockInterleave.f k x19 4 x11).bind fun bt338 => ((spec_BlockInterleave.f k x19 4 x11).bind fun bt340 => (if (bt338.2 != bt340.2) = true then (laws_FnTopOfAll.j3 k x1 x2 x11 x19 (((((t337 ++ (⟨#[10]⟩ : ByteArray)) ++ x20) ++ (⟨#[10]⟩ : ByteArray)) ++ x9) ++ (⟨#[32, 110, 111, 110, 101, 10]⟩ : ByteArray)) (((⟨#[98, 108, 111, 99, 107, 115, 32, 120, 32, 50, 32, 52, 32, 45, 49, 32]⟩ : ByteArray) ++ x9) ++ (⟨#[10, 115, 104, 111, 119, 32, 120, 10, 100, 97, 116, 97, 32, 120, 32, 50, 32, 52, 32, 45, 49, 10]⟩ : ByteArray)) bt338.1 bt338.2 true) else (laws_FnTopOfAll.j3 k x1 x2 x11 x19 (((((t337 ++ (⟨#[10]⟩ : ByteArray)) ++ x20) ++ (⟨#[10]⟩ : ByteArray)) ++ x9) ++ (⟨#[32, 110, 111, 110, 101, 10]⟩ : ByteArray)) (((⟨#[98, 108, 111, 99, 107, 115, 32, 120, 32, 50, 32, 52, 32, 45, 49, 32]⟩ : ByteArray) ++ x9) ++ (⟨#[10, 115, 104, 111, 119, 32, 120, 10, 100, 97, 116, 97, 32, 120, 32, 50, 32, 52, 32, 45, 49, 10]⟩ : ByteArray)) bt338.1 bt338.2 (bt338.1.toList != bt340.1.toList))))) else (laws_FnTopOfAll.j5 k x1 x2 x11 x19 (((((t337 ++ (⟨#[10]⟩ : ByteArray)) ++ x20) ++ (⟨#[10]⟩ : ByteArray)) ++ x9) ++ (⟨#[32, 110, 111, 110, 101, 10]⟩ : ByteArray)) (((⟨#[98, 108, 111, 99, 107, 115, 32, 120, 32, 50, 32, 52, 32, 45, 49, 32]⟩ : ByteArray) ++ x9) ++ (⟨#[10, 115, 104, 111, 119, 32, 120, 10, 100, 97, 116, 97, 32, 120, 32, 50, 32, 52, 32, 45, 49, 10]⟩ : ByteArray)))) else (none)) else (none)) else (none)) else (none)) else (none)) else (none)) else (none))
def laws_FnTopOfAll.j5 : Nat → Int → Int → ByteArray → Int → ByteArray → ByteArray → Option (Bool)
 | 0, _, _, _, _, _, _ => none
 | k + 1, x1, x2, x11, x19, x21, x22 => (impl_RepeatBits.f k x11 3).bind fun bt346 => ((impl_AddCheck.f k x1 x11).bind fun bt348 => ((spec_RepeatBits.f k x11 3).bind fun bt350 => (if (bt346.2 != bt350.2) = true then (laws_FnTopOfAll.j6 k x1 x2 x11 x19 x21 x22 bt346.1 bt346.2 bt348.1 bt348.2 true) else (laws_FnTopOfAll.j6 k x1 x2 x11 x19 x21 x22 bt346.1 bt346.2 bt348.1 bt348.2 (bt346.1.toList != bt350.1.toList)))))
def laws_FnTopOfAll.j6 : Nat → Int → Int → ByteArray → Int → ByteArray → ByteArray → ByteArray → Bool → ByteArray → Bool → Bool → Option (Bool)
 | 0, _, _, _, _, _, _, _, _, _, _, _ => none
 | k + 1, x1, x2, x11, x19, x21, x22, x29, x30, x31, x32, x193 => if x193 = true then (some false) else ((spec_AddCheck.f k x1 x11).bind fun bt352 => (if (x32 != bt352.2) = true then (laws_FnTopOfAll.j7 k x1 x2 x11 x19 x21 x22 x29 x30 x31 x32 true) else (if x31.toList = bt352.1.toList then (if x32 = true then ((impl_HasCheck.f k x1 x31).bind fun t354 => (laws_FnTopOfAll.j7 k x1 x2 x11 x19 x21 x22 x29 x30 x31 x32 (!t354))) else (laws_FnTopOfAll.j7 k x1 x2 x11 x19 x21 x22 x29 x30 x31 x32 false)) else (laws_FnTopOfAll.j7 k x1 x2 x11 x19 x21 x22 x29 x30 x31 x32 true))))
def laws_FnTopOfAll.j7 : Nat → Int → Int → ByteArray → Int → ByteArray → ByteArray → ByteArray → Bool → ByteArray → Bool → Bool → Option (Bool)
 | 0, _, _, _, _, _, _, _, _, _, _, _ => none
 | k + 1, x1, x2, x11, x19, x21, x22, x29, x30, x31, x32, x216 => if x216 = true then (some false) else (if x19 > 0 then (laws_FnTopOfAll.j8 k x1 x2 x11 x21 x22 x29 x31 x32 x30) else (laws_FnTopOfAll.j8 k x1 x2 x11 x21 x22 x29 x31 x32 false))
def laws_FnTopOfAll.j8 : Nat → Int → Int → ByteArray → ByteArray → ByteArray → ByteArray → ByteArray → Bool → Bool → Option (Bool)
 | 0, _, _, _, _, _, _, _, _, _ => none
 | k + 1, x1, x2, x11, x21, x22, x29, x31, x32, x221 => if x221 = true then (if (IntKind.u64.wrap ((x29.size : Int))) = 0 then (none) else ((impl_Decimal.f (wrap64 (Int.tmod (IntKind.u64.wrap (x2)) (IntKind.u64.wrap ((x29.size : Int)))))).bind fun t355 => (if 20 + t355.size ≤ 9223372036854775807 then (if ((⟨#[114, 101, 112, 101, 97, 116, 32, 122, 32, 120, 32, 51, 10, 102, 108, 105, 112, 32, 122, 32]⟩ : ByteArray) ++ t355).size + 19 ≤ 9223372036854775807 then (if x22.size + (((⟨#[114, 101, 112, 101, 97, 116, 32, 122, 32, 120, 32, 51, 10, 102, 108, 105, 112, 32, 122, 32]⟩ : ByteArray) ++ t355) ++ (⟨#[10, 118, 111, 116, 101, 32, 122, 32, 122, 32, 51, 10, 115, 104, 111, 119, 32, 122, 10]⟩ : ByteArray)).size ≤ 9223372036854775807 then (if 9 + x11.size ≤ 9223372036854775807 then (if ((⟨#[111, 107, 10, 111, 107, 10, 111, 107, 10]⟩ : ByteArray) ++ x11).size + 1 ≤ 9223372036854775807 then (if x21.size + (((⟨#[111, 107, 10, 111, 107, 10, 111, 107, 10]⟩ : ByteArray) ++ x11) ++ (⟨#[10]⟩ : ByteArray)).size ≤ 9223372036854775807 then (laws_FnTopOfAll.j9 k x1 (x21 ++ (((⟨#[111, 107, 10, 111, 107, 10, 111, 107, 10]⟩ : ByteArray) ++ x11) ++ (⟨#[10]⟩ : ByteArray))) (x22 ++ (((⟨#[114, 101, 112, 101, 97, 116, 32, 122, 32, 120, 32, 51, 10, 102, 108, 105, 112, 32, 122, 32]⟩ : ByteArray) ++ t355) ++ (⟨#[10, 118, 111, 116, 101, 32, 122, 32, 122, 32, 51, 10, 115, 104, 111, 119, 32, 122, 10]⟩ : ByteArray))) x31 x32) else (none)) else (none)) else (none)) else (none)) else (none)) else (none)))) else (laws_FnTopOfAll.j9 k x1 x21 x22 x31 x32)
def laws_FnTopOfAll.j9 : Nat → Int → ByteArray → ByteArray → ByteArray → Bool → Option (Bool)
 | 0, _, _, _, _, _ => none
 | k + 1, x1, x21, x22, x31, x32 => if x32 = true then ((impl_Decimal.f x1).bind fun t356 => (if 10 + t356.size ≤ 9223372036854775807 then (if ((⟨#[99, 104, 101, 99, 107, 32, 119, 32, 120, 32]⟩ : ByteArray) ++ t356).size + 10 ≤ 9223372036854775807 then ((impl_Decimal.f x1).bind fun t357 => (if (((⟨#[99, 104, 101, 99, 107, 32, 119, 32, 120, 32]⟩ : ByteArray) ++ t356) ++ (⟨#[10, 118, 101, 114, 105, 102, 121, 32, 119, 32]⟩ : ByteArray)).size + t357.size ≤ 9223372036854775807 then (if ((((⟨#[99, 104, 101, 99, 107, 32, 119, 32, 120, 32]⟩ : ByteArray) ++ t356) ++ (⟨#[10, 118, 101, 114, 105, 102, 121, 32, 119, 32]⟩ : ByteArray)) ++ t357).size + 8 ≤ 9223372036854775807 then (if x22.size + (((((⟨#[99, 104, 101, 99, 107, 32, 119, 32, 120, 32]⟩ : ByteArray) ++ t356) ++ (⟨#[10, 118, 101, 114, 105, 102, 121, 32, 119, 32]⟩ : ByteArray)) ++ t357) ++ (⟨#[10, 115, 104, 111, 119, 32, 119, 10]⟩ : ByteArray)).size ≤ 9223372036854775807 then (if 7 + x31.size ≤ 9223372036854775807 then (if ((⟨#[111, 107, 10, 121, 101, 115, 10]⟩ : ByteArray) ++ x31).size + 1 ≤ 9223372036854775807 then (if x21.size + (((⟨#[111, 107, 10, 121, 101, 115, 10]⟩ : ByteArray) ++ x31) ++ (⟨#[10]⟩ : ByteArray)).size ≤ 9223372036854775807 then (laws_FnTopOfAll.j10 k (x21 ++ (((⟨#[111, 107, 10, 121, 101, 115, 10]⟩ : ByteArray) ++ x31) ++ (⟨#[10]⟩ : ByteArray))) (x22 ++ (((((⟨#[99, 104, 101, 99, 107, 32, 119, 32, 120, 32]⟩ : ByteArray) ++ t356) ++ (⟨#[10, 118, 101, 114, 105, 102, 121, 32, 119, 32]⟩ : ByteArray)) ++ t357) ++ (⟨#[10, 115, 104, 111, 119, 32, 119, 10]⟩ : ByteArray)))) else (none)) else (none)) else (none)) else (none)) else (none)) else (none))) else (none)) else (none))) else (laws_FnTopOfAll.j10 k x21 x22)
def laws_FnTopOfAll.j10 : Nat → ByteArray → ByteArray → Option (Bool)
 | 0, _, _ => none
 | k + 1, x21, x22 => (impl_RunConsole.f k ([] : List ByteArray) ([] : List ByteArray) x22).bind fun bt358 => (if bt358.2.2.2 = true then (if bt358.2.2.1.toList = x21.toList then ((impl_ValidConsole.f k bt358.1 bt358.2.1).bind fun t367 => (some t367)) else (some false)) else ((spec_RunConsole.f k ([] : List ByteArray) ([] : List ByteArray) x22).bind fun bt368 => (some (!bt368.2.2.2))))
def laws_FnTopOfAll.j3 : Nat → Int → Int → ByteArray → Int → ByteArray → ByteArray → ByteArray → Bool → Bool → Option (Bool)
 | 0, _, _, _, _, _, _, _, _, _ => none
 | k + 1, x1, x2, x11, x19, x21, x22, x23, x24, x137 => if x137 = true then (some false) else (if x24 = true then ((impl_BlockDeinterleave.f k x19 4 x23).bind fun bt342 => (if bt342.2 = true then (laws_FnTopOfAll.j4 k x1 x2 x11 x19 x21 x22 x23 (bt342.1.toList != x11.toList)) else (laws_FnTopOfAll.j4 k x1 x2 x11 x19 x21 x22 x23 true))) else (laws_FnTopOfAll.j5 k x1 x2 x11 x19 x21 x22))
def laws_FnTopOfAll.j4 : Nat → Int → Int → ByteArray → Int → ByteArray → ByteArray → ByteArray → Bool → Option (Bool)
 | 0, _, _, _, _, _, _, _, _ => none
 | k + 1, x1, x2, x11, x19, x21, x22, x23, x151 => if x151 = true then (some false) else ((impl_Decimal.f x19).bind fun t344 => (if 8 + t344.size ≤ 9223372036854775807 then (if ((⟨#[108, 97, 121, 32, 121, 32, 120, 32]⟩ : ByteArray) ++ t344).size + 20 ≤ 9223372036854775807 then ((impl_Decimal.f x19).bind fun t345 => (if (((⟨#[108, 97, 121, 32, 121, 32, 120, 32]⟩ : ByteArray) ++ t344) ++ (⟨#[32, 52, 10, 115, 104, 111, 119, 32, 121, 10, 117, 110, 108, 97, 121, 32, 121, 32, 121, 32]⟩ : ByteArray)).size + t345.size ≤ 9223372036854775807 then (if ((((⟨#[108, 97, 121, 32, 121, 32, 120, 32]⟩ : ByteArray) ++ t344) ++ (⟨#[32, 52, 10, 115, 104, 111, 119, 32, 121, 10, 117, 110, 108, 97, 121, 32, 121, 32, 121, 32]⟩ : ByteArray)) ++ t345).size + 10 ≤ 9223372036854775807 then (if x22.size + (((((⟨#[108, 97, 121, 32, 121, 32, 120, 32]⟩ : ByteArray) ++ t344) ++ (⟨#[32, 52, 10, 115, 104, 111, 119, 32, 121, 10, 117, 110, 108, 97, 121, 32, 121, 32, 121, 32]⟩ : ByteArray)) ++ t345) ++ (⟨#[32, 52, 10, 115, 104, 111, 119, 32, 121, 10]⟩ : ByteArray)).size ≤ 9223372036854775807 then (if 3 + x23.size ≤ 9223372036854775807 then (if ((⟨#[111, 107, 10]⟩ : ByteArray) ++ x23).size + 4 ≤ 9223372036854775807 then (if (((⟨#[111, 107, 10]⟩ : ByteArray) ++ x23) ++ (⟨#[10, 111, 107, 10]⟩ : ByteArray)).size + x11.size ≤ 9223372036854775807 then (if ((((⟨#[111, 107, 10]⟩ : ByteArray) ++ x23) ++ (⟨#[10, 111, 107, 10]⟩ : ByteArray)) ++ x11).size + 1 ≤ 9223372036854775807 then (if x21.size + (((((⟨#[111, 107, 10]⟩ : ByteArray) ++ x23) ++ (⟨#[10, 111, 107, 10]⟩ : ByteArray)) ++ x11) ++ (⟨#[10]⟩ : ByteArray)).size ≤ 9223372036854775807 then (laws_FnTopOfAll.j5 k x1 x2 x11 x19 (x21 ++ (((((⟨#[111, 107, 10]⟩ : ByteArray) ++ x23) ++ (⟨#[10, 111, 107, 10]⟩ : ByteArray)) ++ x11) ++ (⟨#[10]⟩ : ByteArray))) (x22 ++ (((((⟨#[108, 97, 121, 32, 121, 32, 120, 32]⟩ : ByteArray) ++ t344) ++ (⟨#[32, 52, 10, 115, 104, 111, 119, 32, 121, 10, 117, 110, 108, 97, 121, 32, 121, 32, 121, 32]⟩ : ByteArray)) ++ t345) ++ (⟨#[32, 52, 10, 115, 104, 111, 119, 32, 121, 10]⟩ : ByteArray)))) else (none)) else (none)) else (none)) else (none)) else (none)) else (none)) else (none)) else (none))) else (none)) else (none)))
end
def laws_FnTopOfAll.f (k : Nat) (l0 : List Int) (a1 : Int) (a2 : Int) : Option (Bool) := (impl_MakeBlockCode.f k 2 4).bind fun bt317 => ((impl_ListText.f k l0).bind fun bt327 => ((impl_EncodeBlocks.f k bt317.1 bt317.2.1 bt317.2.2.1 bt317.2.2.2.1 (-1) l0).bind fun bt329 => ((spec_EncodeBlocks.f k bt317.1 bt317.2.1 bt317.2.2.1 bt317.2.2.2.1 (-1) l0).bind fun bt332 => (if bt317.2.2.2.2 = true then (if (bt329.2.2 != bt332.2.2) = true then (laws_FnTopOfAll.j0 k l0 a1 a2 bt327.1 bt327.2 bt329.1 bt329.2.1 bt329.2.2 true) else (if bt329.1.toList = bt332.1.toList then (laws_FnTopOfAll.j0 k l0 a1 a2 bt327.1 bt327.2 bt329.1 bt329.2.1 bt329.2.2 (bt329.2.1 != bt332.2.1)) else (laws_FnTopOfAll.j0 k l0 a1 a2 bt327.1 bt327.2 bt329.1 bt329.2.1 bt329.2.2 true))) else (laws_FnTopOfAll.j0 k l0 a1 a2 bt327.1 bt327.2 bt329.1 bt329.2.1 bt329.2.2 true)))))
set_option maxHeartbeats 8000000 in
set_option maxRecDepth 100000 in
theorem laws_FnTopOfAll.calls (k : Nat) (A0 : Option Addr) (c0 : Nat) (l0 : List Int) (a1 : Int) (a2 : Int) (r : Bool) (w : World) (hr0 : Kd.C (Kd.int .i64) w A0 l0.length l0) (hc0 : l0.length ≤ c0) (hT : LibW w) (h : laws_FnTopOfAll.f k l0 a1 a2 = some r) :
 Calls Tryz.prog 3 #[.slice A0 l0.length c0, .int .i64 a1, .int .i64 a2] w fun e w' => e = .returned (.bool r) ∧ Below w.heap.size w w' := by
 have HT := Aside0.mk hT
 clear hT
 have hu25 := Tryz.underlying25
 have hu39 := Tryz.underlying39
 have HR0 := Aside0.mk hr0
 have HC0 := Aside0.mk hc0
 clear hr0 hc0
 have HB := Aside0.mk (Below.refl w.heap.size w)
 have H : ((impl_MakeBlockCode.f k 2 4).bind fun bt317 => ((impl_ListText.f k l0).bind fun bt327 => ((impl_EncodeBlocks.f k bt317.1 bt317.2.1 bt317.2.2.1 bt317.2.2.2.1 (-1) l0).bind fun bt329 => ((spec_EncodeBlocks.f k bt317.1 bt317.2.1 bt317.2.2.1 bt317.2.2.2.1 (-1) l0).bind fun bt332 => (if bt317.2.2.2.2 = true then (if (bt329.2.2 != bt332.2.2) = true then (laws_FnTopOfAll.j0 k l0 a1 a2 bt327.1 bt327.2 bt329.1 bt329.2.1 bt329.2.2 true) else (if bt329.1.toList = bt332.1.toList then (laws_FnTopOfAll.j0 k l0 a1 a2 bt327.1 bt327.2 bt329.1 bt329.2.1 bt329.2.2 (bt329.2.1 != bt332.2.1)) else (laws_FnTopOfAll.j0 k l0 a1 a2 bt327.1 bt327.2 bt329.1 bt329.2.1 bt329.2.2 true))) else (laws_FnTopOfAll.j0 k l0 a1 a2 bt327.1 bt327.2 bt329.1 bt329.2.1 bt329.2.2 true)))))) = some r := h
 clear h
 replace H := Option.bind_eq_some_iff.mp H
 obtain ⟨⟨t317, t318, t319, t322, t325⟩, A40, H⟩ := H
 try dsimp only at H
 have A4 := Aside0.mk A40
 clear A40
 replace H := Option.bind_eq_some_iff.mp H
 obtain ⟨⟨t327, t328⟩, A50, H⟩ := H
 try dsimp only at H
 have A5 := Aside0.mk A50
 clear A50
 replace H := Option.bind_eq_some_iff.mp H
 obtain ⟨⟨t329, t330, t331⟩, A60, H⟩ := H
 try dsimp only at H
 have A6 := Aside0.mk A60
 clear A60
 replace H := Option.bind_eq_some_iff.mp H
 obtain ⟨⟨t332, t333, t334⟩, A70, H⟩ := H
 try dsimp only at H
 have A7 := Aside0.mk A70
 clear A70
 have HC8 := Aside0.mk H
 clear H
 go_enter Tryz.func3, Tryz.ntmps3
 go_upto_region 5 with (first | ((with_reducible refine gate_callee (f := 4) rfl ?_); refine goesL_ (some 45) rfl rfl Tryz.func4 Qi0_ rfl #[.int .i64 2, .int .i64 4] rfl Qb0_ ?_; (with_reducible refine (impl_MakeBlockCode.calls k 2 4 t317 t318 t319 t322 t325 _ A4.out).mono ?_); rintro e w9 ⟨v320, v323, rfl, ho0, ho1, hb⟩; refine ⟨_, rfl, ?_⟩; have n0_ := Aside0.mk (Kd.R_lower ho0 (below_size Qa0_)); have n1_ := Aside0.mk (Kd.R_lower ho1 (below_size Qa0_)); have n2_ := Aside0.mk (below_step Qa0_ hb); clear HB; have HO321 := n0_; have HO324 := n1_; have HB := n2_; clear n0_ n1_ n2_; (try clear hb); (try clear hb2); (try clear hk); (try clear hi); (try clear ho0); (try clear ho1)) | ((with_reducible refine gate_dst (N := 7) rfl ?_); refine box_event ?hg (N := 7) ?hd (cs := #[.int .i64 0, .int .i64 0, .slice none 0 0, .slice none 0 0]) (t := 25) ?hr ?_; (case hd => rfl); (case hg => rfl); (case hr => exact Qh0_); intro gb326 hg w10 hbox hb; have n0_ := Aside0.mk (Kd.R_below (Qr_ HO321.out) hb); have n1_ := Aside0.mk (Kd.R_below (Qr_ HO324.out) hb); have n2_ := Aside0.mk (below_step Qa0_ hb); have n3_ := Aside0.mk (hbox); have n4_ := Aside0.mk ((Qp1_ : w.heap.size ≤ gb326)); have n5_ := Aside0.mk ((Qp1_ : w.heap.size ≤ gb326)); clear HO321; clear HO324; clear HB; have HO321 := n0_; have HO324 := n1_; have HB := n2_; have BK326 := n3_; have GW326 := n4_; have GE326 := n5_; clear n0_ n1_ n2_ n3_ n4_ n5_; clear hb hbox hg; have hcz11_0 : w10.cell? ⟨gb326, 0, none⟩ = some (.int .i64 0) := (blk_cell BK326.out 0).trans rfl; have hcz11_1 : w10.cell? ⟨gb326, 1, none⟩ = some (.int .i64 0) := (blk_cell BK326.out 1).trans rfl; have hcz11_2 : w10.cell? ⟨gb326, 2, none⟩ = some (.slice none 0 0) := (blk_cell BK326.out 2).trans rfl; have hcz11_3 : w10.cell? ⟨gb326, 3, none⟩ = some (.slice none 0 0) := (blk_cell BK326.out 3).trans rfl; have hfz11_0 := blk_frozen BK326.out 0; have hfz11_1 := blk_frozen BK326.out 1; have hfz11_2 := blk_frozen BK326.out 2; have hfz11_3 := blk_frozen BK326.out 3; obtain ⟨Ao12, co12, eo12⟩ := Kd.R_slice HO321.out; subst eo12; obtain ⟨Ao13, co13, eo13⟩ := Kd.R_slice HO324.out; subst eo13) | ((with_reducible refine gate_callee (f := 5) rfl ?_); refine goesL_ (some 50) rfl rfl Tryz.func5 Qi0_ rfl #[.slice A0 l0.length c0] rfl Qb0_ ?_; (with_reducible refine (impl_ListText.calls k _ _ l0 t327 t328 _ ?side1 ?side2 ?tb A5.out).mono ?_); (case tb => exact tabBelow HT.out (by repeat (first | (with_reducible first | exact HB.out | apply below_alloc | apply pw_below_drewN | apply below_drew1 | refine below_set ?_ (Aside0.out (by assumption))) | exact HB.out))); (case side1 => exact Kd.C_below HR0.out (Qg_ GE326.out)); (case side2 => exact HC0.out); rintro e w14 ⟨rfl, hb⟩; refine ⟨_, rfl, ?_⟩; have n0_ := Aside0.mk (Kd.R_below (by (with_reducible repeat (first | apply Kd.R_alloc | apply Kd.R_drewN | apply Kd.R_drew)); exact (Kd.R_mono (Kd.R_far (p := ⟨gb326, 3, none⟩) (Kd.R_far (p := ⟨gb326, 2, none⟩) (Kd.R_far (p := ⟨gb326, 1, none⟩) (Kd.R_far (p := ⟨gb326, 0, none⟩) (Kd.R_types HO321.out BK326.out (by decide)) (fun _ hk => hk.2) (.int .i64 t317)) (fun _ hk => hk.2) (.int .i64 t318)) (fun _ hk => hk.2) (.slice Ao12 t319.length co12)) (fun _ hk => hk.2) (.slice Ao13 t322.length co13)) (fun _ h_ => h_.1))) hb); have n1_ := Aside0.mk (Kd.R_below (by (with_reducible repeat (first | apply Kd.R_alloc | apply Kd.R_drewN | apply Kd.R_drew)); exact (Kd.R_mono (Kd.R_far (p := ⟨gb326, 3, none⟩) (Kd.R_far (p := ⟨gb326, 2, none⟩) (Kd.R_far (p := ⟨gb326, 1, none⟩) (Kd.R_far (p := ⟨gb326, 0, none⟩) (Kd.R_types HO324.out BK326.out (by decide)) (fun _ hk => hk.2) (.int .i64 t317)) (fun _ hk => hk.2) (.int .i64 t318)) (fun _ hk => hk.2) (.slice Ao12 t319.length co12)) (fun _ hk => hk.2) (.slice Ao13 t322.length co13)) (fun _ h_ => h_.1))) hb); have n2_ := Aside0.mk (blk_below (g := gb326) (o := .cells #[.int .i64 t317, .int .i64 t318, .slice Ao12 t319.length co12, .slice Ao13 t322.length co13] 25 (0, 0)) (by (with_reducible repeat (first | refine blk_drewN ?_ _ | refine blk_drew ?_ | refine blk_alloc ?_ _)); refine blk_put (cs := #[.int .i64 t317, .int .i64 t318, .slice Ao12 t319.length co12, .slice none 0 0]) ?_ 3 _ rfl; (with_reducible repeat (first | refine blk_drewN ?_ _ | refine blk_drew ?_ | refine blk_alloc ?_ _)); refine blk_put (cs := #[.int .i64 t317, .int .i64 t318, .slice none 0 0, .slice none 0 0]) ?_ 2 _ rfl; (with_reducible repeat (first | refine blk_drewN ?_ _ | refine blk_drew ?_ | refine blk_alloc ?_ _)); refine blk_put (cs := #[.int .i64 t317, .int .i64 0, .slice none 0 0, .slice none 0 0]) ?_ 1 _ rfl; (with_reducible repeat (first | refine blk_drewN ?_ _ | refine blk_drew ?_ | refine blk_alloc ?_ _)); refine blk_put (cs := #[.int .i64 0, .int .i64 0, .slice none 0 0, .slice none 0 0]) ?_ 0 _ rfl; (with_reducible repeat (first | refine blk_drewN ?_ _ | refine blk_drew ?_ | refine blk_alloc ?_ _)); exact BK326.out) hb); have n3_ := Aside0.mk (below_step (Qg_ GE326.out) hb); clear HO321; clear HO324; clear BK326; clear HB; have HO321 := n0_; have HO324 := n1_; have BK326 := n2_; have HB := n3_; clear n0_ n1_ n2_ n3_; (try clear hb); (try clear hb2); (try clear hk); (try clear hi); have hcz15_0 : w14.cell? ⟨gb326, 0, none⟩ = some (.int .i64 t317) := (blk_cell BK326.out 0).trans rfl; have hcz15_1 : w14.cell? ⟨gb326, 1, none⟩ = some (.int .i64 t318) := (blk_cell BK326.out 1).trans rfl; have hcz15_2 : w14.cell? ⟨gb326, 2, none⟩ = some (.slice Ao12 t319.length co12) := (blk_cell BK326.out 2).trans rfl; have hcz15_3 : w14.cell? ⟨gb326, 3, none⟩ = some (.slice Ao13 t322.length co13) := (blk_cell BK326.out 3).trans rfl; have hfz15_0 := blk_frozen BK326.out 0; have hfz15_1 := blk_frozen BK326.out 1; have hfz15_2 := blk_frozen BK326.out 2; have hfz15_3 := blk_frozen BK326.out 3) | ((with_reducible refine gate_callee (f := 6) rfl ?_); refine goesL_ (some 56) rfl rfl Tryz.func6 Qi0_ rfl #[.agg #[.int .i64 t317, .int .i64 t318, .slice Ao12 t319.length co12, .slice Ao13 t322.length co13], .int .i64 (-1), .slice A0 l0.length c0] rfl Qb0_ ?_; (with_reducible refine (impl_EncodeBlocks.calls k t317 t318 _ _ t319 _ _ t322 (-1) _ _ l0 t329 t330 t331 _ ?side1 ?side2 ?side3 ?side4 ?side5 ?side6 A6.out).mono ?_); (case side1 => exact Qc_ (Kd.R_reads' HO321.out).2.2); (case side2 => exact (Kd.R_reads' HO321.out).2.1); (case side3 => exact Qc_ (Kd.R_reads' HO324.out).2.2); (case side4 => exact (Kd.R_reads' HO324.out).2.1); (case side5 => exact Qz0_); (case side6 => exact HC0.out); rintro e w16 ⟨rfl, hb⟩; refine ⟨_, rfl, ?_⟩; have n0_ := Aside0.mk (Kd.R_below (Qr_ HO321.out) hb); have n1_ := Aside0.mk (Kd.R_below (Qr_ HO324.out) hb); have n2_ := Aside0.mk (blk_below (g := gb326) (o := .cells #[.int .i64 t317, .int .i64 t318, .slice Ao12 t319.length co12, .slice Ao13 t322.length co13] 25 (0, 0)) (Qk_ BK326.out) hb); have n3_ := Aside0.mk (below_step (Qg_ GE326.out) hb); clear HO321; clear HO324; clear BK326; clear HB; have HO321 := n0_; have HO324 := n1_; have BK326 := n2_; have HB := n3_; clear n0_ n1_ n2_ n3_; (try clear hb); (try clear hb2); (try clear hk); (try clear hi); have hcz17_0 : w16.cell? ⟨gb326, 0, none⟩ = some (.int .i64 t317) := (blk_cell BK326.out 0).trans rfl; have hcz17_1 : w16.cell? ⟨gb326, 1, none⟩ = some (.int .i64 t318) := (blk_cell BK326.out 1).trans rfl; have hcz17_2 : w16.cell? ⟨gb326, 2, none⟩ = some (.slice Ao12 t319.length co12) := (blk_cell BK326.out 2).trans rfl; have hcz17_3 : w16.cell? ⟨gb326, 3, none⟩ = some (.slice Ao13 t322.length co13) := (blk_cell BK326.out 3).trans rfl; have hfz17_0 := blk_frozen BK326.out 0; have hfz17_1 := blk_frozen BK326.out 1; have hfz17_2 := blk_frozen BK326.out 2; have hfz17_3 := blk_frozen BK326.out 3) | ((with_reducible refine gate_callee (f := 7) rfl ?_); refine goesL_ (some 63) rfl rfl Tryz.func7 Qi0_ rfl #[.agg #[.int .i64 t317, .int .i64 t318, .slice Ao12 t319.length co12, .slice Ao13 t322.length co13], .int .i64 (-1), .slice A0 l0.length c0] rfl Qb0_ ?_; (with_reducible refine (spec_EncodeBlocks.calls k t317 t318 _ _ t319 _ _ t322 (-1) _ _ l0 t332 t333 t334 _ ?side1 ?side2 ?side3 ?side4 ?side5 ?side6 A7.out).mono ?_); (case side1 => exact Qc_ (Kd.R_reads' HO321.out).2.2); (case side2 => exact (Kd.R_reads' HO321.out).2.1); (case side3 => exact Qc_ (Kd.R_reads' HO324.out).2.2); (case side4 => exact (Kd.R_reads' HO324.out).2.1); (case side5 => exact Qz0_); (case side6 => exact HC0.out); rintro e w18 ⟨rfl, hb⟩; refine ⟨_, rfl, ?_⟩; have n0_ := Aside0.mk (Kd.R_below (Qr_ HO321.out) hb); have n1_ := Aside0.mk (Kd.R_below (Qr_ HO324.out) hb); have n2_ := Aside0.mk (blk_below (g := gb326) (o := .cells #[.int .i64 t317, .int .i64 t318, .slice Ao12 t319.length co12, .slice Ao13 t322.length co13] 25 (0, 0)) (Qk_ BK326.out) hb); have n3_ := Aside0.mk (below_step (Qg_ GE326.out) hb); clear HO321; clear HO324; clear BK326; clear HB; have HO321 := n0_; have HO324 := n1_; have BK326 := n2_; have HB := n3_; clear n0_ n1_ n2_ n3_; (try clear hb); (try clear hb2); (try clear hk); (try clear hi)))
 (try simp only [Act.put, List.setIfInBounds_toArray, List.set_cons_zero, List.set_cons_succ])
 go_cut [83] (fun v83 wc => ∃ (kq : Nat) (x83_7 : Bool), v83 = .bool x83_7 ∧ Aside0 (laws_FnTopOfAll.j0 kq l0 a1 a2 t327 t328 t329 t330 t331 x83_7 = some r) ∧ Aside0 (kq ≤ k) ∧ Aside0 (Kd.R Kd.string 9 wc w.heap.size (fun k_ => some k_ ≠ ((.slice Ao13 t322.length co13) : Value).ownBlock) (.slice Ao12 t319.length co12) t319) ∧ Aside0 (Kd.R Kd.string 9 wc w.heap.size (fun k_ => some k_ ≠ ((.slice Ao12 t319.length co12) : Value).ownBlock) (.slice Ao13 t322.length co13) t322) ∧ Aside0 (wc.heap[gb326]? = some (.cells #[.int .i64 t317, .int .i64 t318, (.slice Ao12 t319.length co12), (.slice Ao13 t322.length co13)] 25 (0, 0))) ∧ Aside0 (Below w.heap.size w wc))
 case first =>
  have H := HC8.out
  clear HC8
  by_cases c19 : t325 = true
  ·subst c19
   rw [if_pos rfl] at H
   have H1 := H
   clear H
   have H := H1
   clear H1
   by_cases c20 : (t331 != t334) = true
   ·rw [if_pos c20] at H
    have c20b0 : (t331 != t334) = true := c20
    (try (have c20b1 : decide (t331 = t334) = false := by simpa using c20))
    (try (have c20b2 : (t331 == t334) = false := by simpa using c20))
    (try (have c20b3 : ¬ (t331 = t334) := by simpa using c20))
    clear c20
    (first | rw [c20b0] | (simp only [i64_w, i32_w]; rw [c20b0]) | skip)
    have H' := Aside0.mk H
    clear H
    go_wp2
    go_meet
    case rel => exact ⟨_, (true), Qc0_, H', ⟨Qa1_⟩, ⟨Qr_ HO321.out⟩, ⟨Qr_ HO324.out⟩, ⟨Qk_ BK326.out⟩, ⟨Qg_ GE326.out⟩⟩
   ·rw [if_neg c20] at H
    have c20b0 : (t331 != t334) = false := by simpa using c20
    (try (have c20b1 : decide (t331 = t334) = true := by simpa using c20))
    (try (have c20b2 : (t331 == t334) = true := by simpa using c20))
    clear c20
    (first | rw [c20b0] | (simp only [i64_w, i32_w]; rw [c20b0]) | skip)
    by_cases c21 : t329.toList = t332.toList
    ·rw [if_pos c21] at H
     have c21b0 := beq_iff_eq.mpr c21
     have c21b1 := bne_eq_false_iff_eq.mpr c21
     clear c21
     have H' := Aside0.mk H
     clear H
     go_wp2
     go_meet
     case rel => exact ⟨_, ((t330 != t333)), Qc0_, H', ⟨Qa1_⟩, ⟨Qr_ HO321.out⟩, ⟨Qr_ HO324.out⟩, ⟨Qk_ BK326.out⟩, ⟨Qg_ GE326.out⟩⟩
    ·rw [if_neg c21] at H
     have c21b0 := beq_eq_false_iff_ne.mpr c21
     have c21b1 := bne_iff_ne.mpr c21
     have H' := Aside0.mk H
     clear H
     go_wp2
     go_meet
     case rel => exact ⟨_, (true), Qc0_, H', ⟨Qa1_⟩, ⟨Qr_ HO321.out⟩, ⟨Qr_ HO324.out⟩, ⟨Qk_ BK326.out⟩, ⟨Qg_ GE326.out⟩⟩
  ·replace c19 := Bool.eq_false_iff.mpr c19
   subst c19
   rw [if_neg (show ¬ (false = true) by decide)] at H
   have H1 := H
   clear H
   have H := H1
   clear H1
   have H' := Aside0.mk H
   clear H
   go_wp2
   go_meet
   case rel => exact ⟨_, (true), Qc0_, H', ⟨Qa1_⟩, ⟨Qr_ HO321.out⟩, ⟨Qr_ HO324.out⟩, ⟨Qk_ BK326.out⟩, ⟨Qg_ GE326.out⟩⟩
 case rest => as_aux_lemma =>
  clear HC8
  try clear c1
  try clear c2
  try clear p2
  try clear c3
  try clear c4
  try clear c5
  try clear c6
  try clear c7
  try clear c19
  try clear c20
  try clear c20b0
  try clear c20b1
  try clear c20b2
  try clear c21
  try clear c21b0
  try clear c21b1
  try clear hcz11_0
  try clear hcz11_1
  try clear hcz11_2
  try clear hcz11_3
  try clear hcz15_0
  try clear hcz15_1
  try clear hcz15_2
  try clear hcz15_3
  try clear hcz17_0
  try clear hcz17_1
  try clear hcz17_2
  try clear hcz17_3
  try clear hfz11_0
  try clear hfz11_1
  try clear hfz11_2
  try clear hfz11_3
  try clear hfz15_0
  try clear hfz15_1
  try clear hfz15_2
  try clear hfz15_3
  try clear hfz17_0
  try clear hfz17_1
  try clear hfz17_2
  try clear hfz17_3
  obtain ⟨kq, x83_7, rfl, HA, HJ7, HO_327002, HO_327003, BK326, HB⟩ := hcut
  cases kq with
  | zero => exact absurd HA.out (by simp [laws_FnTopOfAll.j0])
  | succ kj7 =>
   have H := HA.out
   clear HA
   simp only [laws_FnTopOfAll.j0] at H
   by_cases c22 : x83_7 = true
   ·subst c22
    rw [if_pos rfl] at H
    have H1 := H
    clear H
    have H := H1
    clear H1
    obtain rfl := Option.some.inj H
    go_wp2
    go_ret
    exact ⟨Qe0_, Qg_ GE326.out⟩
   ·replace c22 := Bool.eq_false_iff.mpr c22
    subst c22
    rw [if_neg (show ¬ (false = true) by decide)] at H
    have H1 := H
    clear H
    have H := H1
    clear H1
    replace H := Option.bind_eq_some_iff.mp H
    obtain ⟨⟨t335, t336⟩, A230, H⟩ := H
    try dsimp only at H
    have A23 := Aside0.mk A230
    clear A230
    by_cases c24 : (t328 != t336) = true
    ·rw [if_pos c24] at H
     have c24b0 : (t328 != t336) = true := c24
     (try (have c24b1 : decide (t328 = t336) = false := by simpa using c24))
     (try (have c24b2 : (t328 == t336) = false := by simpa using c24))
     (try (have c24b3 : ¬ (t328 = t336) := by simpa using c24))
     clear c24
     obtain rfl := Option.some.inj H
     go_wp2_with (first | ((with_reducible refine gate_callee (f := 8) rfl ?_); refine goesL_ (some 86) rfl rfl Tryz.func8 Qi0_ rfl #[.slice A0 l0.length c0] rfl Qb0_ ?_; (with_reducible refine (spec_ListText.calls kj7 _ _ l0 t335 t336 _ ?side1 ?side2 A23.out).mono ?_); (case side1 => exact Qz0_); (case side2 => exact HC0.out); rintro e w25 ⟨rfl, hb⟩; refine ⟨_, rfl, ?_⟩; have n0_ := Aside0.mk (Kd.R_below (Qr_ HO_327002.out) hb); have n1_ := Aside0.mk (Kd.R_below (Qr_ HO_327003.out) hb); have n2_ := Aside0.mk (blk_below (g := gb326) (o := .cells #[.int .i64 t317, .int .i64 t318, .slice Ao12 t319.length co12, .slice Ao13 t322.length co13] 25 (0, 0)) (Qk_ BK326.out) hb); have n3_ := Aside0.mk (below_step (Qg_ GE326.out) hb); clear HO_327002; clear HO_327003; clear BK326; clear HB; have HO_327002 := n0_; have HO_327003 := n1_; have BK326 := n2_; have HB := n3_; clear n0_ n1_ n2_ n3_; (try clear hb); (try clear hb2); (try clear hk); (try clear hi)))
     go_ret
     exact ⟨Qe0_, Qg_ GE326.out⟩
    ·rw [if_neg c24] at H
     have c24b0 : (t328 != t336) = false := by simpa using c24
     (try (have c24b1 : decide (t328 = t336) = true := by simpa using c24))
     (try (have c24b2 : (t328 == t336) = true := by simpa using c24))
     clear c24
     have HC26 := Aside0.mk H
     clear H
     go_upto_region 10 with (first | ((with_reducible refine gate_callee (f := 8) rfl ?_); refine goesL_ (some 86) rfl rfl Tryz.func8 Qi0_ rfl #[.slice A0 l0.length c0] rfl Qb0_ ?_; (with_reducible refine (spec_ListText.calls kj7 _ _ l0 t335 t336 _ ?side1 ?side2 A23.out).mono ?_); (case side1 => exact Qz0_); (case side2 => exact HC0.out); rintro e w27 ⟨rfl, hb⟩; refine ⟨_, rfl, ?_⟩; have n0_ := Aside0.mk (Kd.R_below (Qr_ HO_327002.out) hb); have n1_ := Aside0.mk (Kd.R_below (Qr_ HO_327003.out) hb); have n2_ := Aside0.mk (blk_below (g := gb326) (o := .cells #[.int .i64 t317, .int .i64 t318, .slice Ao12 t319.length co12, .slice Ao13 t322.length co13] 25 (0, 0)) (Qk_ BK326.out) hb); have n3_ := Aside0.mk (below_step (Qg_ GE326.out) hb); clear HO_327002; clear HO_327003; clear BK326; clear HB; have HO_327002 := n0_; have HO_327003 := n1_; have BK326 := n2_; have HB := n3_; clear n0_ n1_ n2_ n3_; (try clear hb); (try clear hb2); (try clear hk); (try clear hi)))
     (try simp only [Act.put, List.setIfInBounds_toArray, List.set_cons_zero, List.set_cons_succ])
     go_cut [97] (fun v97 wc => ∃ (kq : Nat) (x97_25 : Bool), v97 = .bool x97_25 ∧ Aside0 (laws_FnTopOfAll.j1 kq a1 a2 t327 t329 t330 x97_25 = some r) ∧ Aside0 (kq ≤ kj7) ∧ Aside0 (Kd.R Kd.string 9 wc w.heap.size (fun k_ => some k_ ≠ ((.slice Ao13 t322.length co13) : Value).ownBlock) (.slice Ao12 t319.length co12) t319) ∧ Aside0 (Kd.R Kd.string 9 wc w.heap.size (fun k_ => some k_ ≠ ((.slice Ao12 t319.length co12) : Value).ownBlock) (.slice Ao13 t322.length co13) t322) ∧ Aside0 (wc.heap[gb326]? = some (.cells #[.int .i64 t317, .int .i64 t318, (.slice Ao12 t319.length co12), (.slice Ao13 t322.length co13)] 25 (0, 0))) ∧ Aside0 (Below w.heap.size w wc))
     case first =>
      have H := HC26.out
      clear HC26
      by_cases c28 : t328 = true
      ·subst c28
       rw [if_pos rfl] at H
       have H1 := H
       clear H
       have H := H1
       clear H1
       have H' := Aside0.mk H
       clear H
       go_wp2
       go_meet
       case rel => exact ⟨_, (!t331), Qc0_, H', ⟨by have := HJ7.out; first | omega | exact Nat.le_refl _⟩, ⟨Qr_ HO_327002.out⟩, ⟨Qr_ HO_327003.out⟩, ⟨Qk_ BK326.out⟩, ⟨Qg_ GE326.out⟩⟩
      ·replace c28 := Bool.eq_false_iff.mpr c28
       subst c28
       rw [if_neg (show ¬ (false = true) by decide)] at H
       have H1 := H
       clear H
       have H := H1
       clear H1
       have H' := Aside0.mk H
       clear H
       go_wp2
       go_meet
       case rel => exact ⟨_, (true), Qc0_, H', ⟨by have := HJ7.out; first | omega | exact Nat.le_refl _⟩, ⟨Qr_ HO_327002.out⟩, ⟨Qr_ HO_327003.out⟩, ⟨Qk_ BK326.out⟩, ⟨Qg_ GE326.out⟩⟩
     case rest => as_aux_lemma =>
      clear HC26
      try clear c1
      try clear c2
      try clear p2
      try clear c3
      try clear c4
      try clear c5
      try clear c6
      try clear c7
      try clear c8
      try clear c19
      try clear c20
      try clear c20b0
      try clear c20b1
      try clear c20b2
      try clear c21
      try clear c21b0
      try clear c21b1
      try clear c22
      try clear c24
      try clear c24b0
      try clear c24b1
      try clear c24b2
      try clear c28
      try clear hcz11_0
      try clear hcz11_1
      try clear hcz11_2
      try clear hcz11_3
      try clear hcz15_0
      try clear hcz15_1
      try clear hcz15_2
      try clear hcz15_3
      try clear hcz17_0
      try clear hcz17_1
      try clear hcz17_2
      try clear hcz17_3
      try clear hfz11_0
      try clear hfz11_1
      try clear hfz11_2
      try clear hfz11_3
      try clear hfz15_0
      try clear hfz15_1
      try clear hfz15_2
      try clear hfz15_3
      try clear hfz17_0
      try clear hfz17_1
      try clear hfz17_2
      try clear hfz17_3
      try clear p2
      obtain ⟨kq, x97_25, rfl, HA, HJ25, HO_327002, HO_327003, BK326, HB⟩ := hcut
      cases kq with
      | zero => exact absurd HA.out (by simp [laws_FnTopOfAll.j1])
      | succ kj25 =>
       have H := HA.out
       clear HA
       simp only [laws_FnTopOfAll.j1] at H
       by_cases c29 : x97_25 = true
       ·subst c29
        rw [if_pos rfl] at H
        have H1 := H
        clear H
        have H := H1
        clear H1
        obtain rfl := Option.some.inj H
        go_wp2
        go_ret
        exact ⟨Qe0_, Qg_ GE326.out⟩
       ·replace c29 := Bool.eq_false_iff.mpr c29
        subst c29
        rw [if_neg (show ¬ (false = true) by decide)] at H
        have H1 := H
        clear H
        have H := H1
        clear H1
        have HC30 := Aside0.mk H
        clear H
        go_upto_if 103 with (fail)
        go_cut [20] (fun v20 wc => ∃ (kq : Nat) (x20_29 : ByteArray), v20 = .string x20_29 ∧ Aside0 (laws_FnTopOfAll.j2 kq a1 a2 t327 t329 t330 (wrap64 ((t329.size : Int) / 4)) x20_29 = some r) ∧ Aside0 (kq ≤ kj25) ∧ Aside0 (Kd.R Kd.string 9 wc w.heap.size (fun k_ => some k_ ≠ ((.slice Ao13 t322.length co13) : Value).ownBlock) (.slice Ao12 t319.length co12) t319) ∧ Aside0 (Kd.R Kd.string 9 wc w.heap.size (fun k_ => some k_ ≠ ((.slice Ao12 t319.length co12) : Value).ownBlock) (.slice Ao13 t322.length co13) t322) ∧ Aside0 (wc.heap[gb326]? = some (.cells #[.int .i64 t317, .int .i64 t318, (.slice Ao12 t319.length co12), (.slice Ao13 t322.length co13)] 25 (0, 0))) ∧ Aside0 (Below w.heap.size w wc))
        case first =>
         have H := HC30.out
         clear HC30
         by_cases c31 : t329.toList = ([] : List UInt8)
         ·rw [if_pos c31] at H
          have c31b0 := beq_iff_eq.mpr c31
          have c31b1 := bne_eq_false_iff_eq.mpr c31
          clear c31
          (first | rw [c31b0] | (simp only [i64_w, i32_w]; rw [c31b0]) | rw [show t329.toList.isEmpty = (t329.toList == ([] : List UInt8)) from by cases t329.toList <;> rfl, c31b0] | skip)
          have H' := Aside0.mk H
          clear H
          go_wp2
          go_meet
          case rel => exact ⟨_, ((⟨#[110, 111, 110, 101]⟩ : ByteArray)), Qc0_, H', ⟨by have := HJ7.out; have := HJ25.out; first | omega | exact Nat.le_refl _⟩, ⟨Qr_ HO_327002.out⟩, ⟨Qr_ HO_327003.out⟩, ⟨Qk_ BK326.out⟩, ⟨Qg_ GE326.out⟩⟩
         ·rw [if_neg c31] at H
          have c31b0 := beq_eq_false_iff_ne.mpr c31
          have c31b1 := bne_iff_ne.mpr c31
          (first | rw [c31b0] | (simp only [i64_w, i32_w]; rw [c31b0]) | rw [show t329.toList.isEmpty = (t329.toList == ([] : List UInt8)) from by cases t329.toList <;> rfl, c31b0] | skip)
          have H' := Aside0.mk H
          clear H
          go_wp2
          go_meet
          case rel => exact ⟨_, (t329), Qc0_, H', ⟨by have := HJ7.out; have := HJ25.out; first | omega | exact Nat.le_refl _⟩, ⟨Qr_ HO_327002.out⟩, ⟨Qr_ HO_327003.out⟩, ⟨Qk_ BK326.out⟩, ⟨Qg_ GE326.out⟩⟩
        case rest => as_aux_lemma =>
         clear HC30
         try clear c1
         try clear c2
         try clear p2
         try clear c3
         try clear c4
         try clear c5
         try clear c6
         try clear p6
         try clear c7
         try clear c8
         try clear c19
         try clear c20
         try clear c20b0
         try clear c20b1
         try clear c20b2
         try clear c21
         try clear c21b0
         try clear c21b1
         try clear c22
         try clear c24
         try clear c24b0
         try clear c24b1
         try clear c24b2
         try clear c28
         try clear c29
         try clear c31
         try clear c31b0
         try clear c31b1
         try clear hcz11_0
         try clear hcz11_1
         try clear hcz11_2
         try clear hcz11_3
         try clear hcz15_0
         try clear hcz15_1
         try clear hcz15_2
         try clear hcz15_3
         try clear hcz17_0
         try clear hcz17_1
         try clear hcz17_2
         try clear hcz17_3
         try clear hfz11_0
         try clear hfz11_1
         try clear hfz11_2
         try clear hfz11_3
         try clear hfz15_0
         try clear hfz15_1
         try clear hfz15_2
         try clear hfz15_3
         try clear hfz17_0
         try clear hfz17_1
         try clear hfz17_2
         try clear hfz17_3
         try clear p2
         obtain ⟨kq, x20_29, rfl, HA, HJ29, HO_327002, HO_327003, BK326, HB⟩ := hcut
         cases kq with
         | zero => exact absurd HA.out (by simp [laws_FnTopOfAll.j2])
         | succ kj29 =>
          have H := HA.out
          clear HA
          simp only [laws_FnTopOfAll.j2] at H
          replace H := Option.bind_eq_some_iff.mp H
          obtain ⟨t337, A320, H⟩ := H
          try dsimp only at H
          have A32 := Aside0.mk A320
          clear A320
          by_cases c33 : t337.size + 1 ≤ 9223372036854775807
          ·rw [if_pos c33] at H
           have c33b0 := eq_true c33
           have c33b1 := decide_eq_true c33
           try have c33b2 := eq_false (Nat.not_lt.2 c33)
           by_cases c34 : (t337 ++ (⟨#[10]⟩ : ByteArray)).size + x20_29.size ≤ 9223372036854775807
           ·rw [if_pos c34] at H
            have c34b0 := eq_true c34
            have c34b1 := decide_eq_true c34
            try have c34b2 := eq_false (Nat.not_lt.2 c34)
            try have c34b4 : (9223372036854775807 < (t337.size + 1) + x20_29.size) = False := eq_false (Nat.not_lt.2 (by have q_ := c34; simp only [ByteArray.size_append] at q_; exact q_))
            by_cases c35 : ((t337 ++ (⟨#[10]⟩ : ByteArray)) ++ x20_29).size + 1 ≤ 9223372036854775807
            ·rw [if_pos c35] at H
             have c35b0 := eq_true c35
             have c35b1 := decide_eq_true c35
             try have c35b2 := eq_false (Nat.not_lt.2 c35)
             try have c35b4 : (9223372036854775807 < ((t337.size + 1) + x20_29.size) + 1) = False := eq_false (Nat.not_lt.2 (by have q_ := c35; simp only [ByteArray.size_append] at q_; exact q_))
             by_cases c36 : (((t337 ++ (⟨#[10]⟩ : ByteArray)) ++ x20_29) ++ (⟨#[10]⟩ : ByteArray)).size + t327.size ≤ 9223372036854775807
             ·rw [if_pos c36] at H
              have c36b0 := eq_true c36
              have c36b1 := decide_eq_true c36
              try have c36b2 := eq_false (Nat.not_lt.2 c36)
              try have c36b4 : (9223372036854775807 < (((t337.size + 1) + x20_29.size) + 1) + t327.size) = False := eq_false (Nat.not_lt.2 (by have q_ := c36; simp only [ByteArray.size_append] at q_; exact q_))
              by_cases c37 : ((((t337 ++ (⟨#[10]⟩ : ByteArray)) ++ x20_29) ++ (⟨#[10]⟩ : ByteArray)) ++ t327).size + 6 ≤ 9223372036854775807
              ·rw [if_pos c37] at H
               have c37b0 := eq_true c37
               have c37b1 := decide_eq_true c37
               try have c37b2 := eq_false (Nat.not_lt.2 c37)
               try have c37b4 : (9223372036854775807 < ((((t337.size + 1) + x20_29.size) + 1) + t327.size) + 6) = False := eq_false (Nat.not_lt.2 (by have q_ := c37; simp only [ByteArray.size_append] at q_; exact q_))
               by_cases c38 : 16 + t327.size ≤ 9223372036854775807
               ·rw [if_pos c38] at H
                have c38b0 := eq_true c38
                have c38b1 := decide_eq_true c38
                try have c38b2 := eq_false (Nat.not_lt.2 c38)
                by_cases c39 : ((⟨#[98, 108, 111, 99, 107, 115, 32, 120, 32, 50, 32, 52, 32, 45, 49, 32]⟩ : ByteArray) ++ t327).size + 22 ≤ 9223372036854775807
                ·rw [if_pos c39] at H
                 have c39b0 := eq_true c39
                 have c39b1 := decide_eq_true c39
                 try have c39b2 := eq_false (Nat.not_lt.2 c39)
                 try have c39b4 : (9223372036854775807 < (16 + t327.size) + 22) = False := eq_false (Nat.not_lt.2 (by have q_ := c39; simp only [ByteArray.size_append] at q_; exact q_))
                 have HC40 := Aside0.mk H
                 clear H
                 go_upto_if 117 with (first | ((with_reducible refine gate_callee (f := 9) rfl ?_); refine goesL_ (some 105) rfl rfl Tryz.func9 Qi0_ rfl #[.int .i64 t330] rfl Qb0_ ?_; (with_reducible refine (impl_Decimal.calls t330 t337 _ ?tb A32.out).mono ?_); (case tb => exact Qg0_); rintro e w41 ⟨rfl, hb⟩; refine ⟨_, rfl, ?_⟩; have n0_ := Aside0.mk (Kd.R_below (Qr_ HO_327002.out) hb); have n1_ := Aside0.mk (Kd.R_below (Qr_ HO_327003.out) hb); have n2_ := Aside0.mk (blk_below (g := gb326) (o := .cells #[.int .i64 t317, .int .i64 t318, .slice Ao12 t319.length co12, .slice Ao13 t322.length co13] 25 (0, 0)) (Qk_ BK326.out) hb); have n3_ := Aside0.mk (below_step (Qg_ GE326.out) hb); clear HO_327002; clear HO_327003; clear BK326; clear HB; have HO_327002 := n0_; have HO_327003 := n1_; have BK326 := n2_; have HB := n3_; clear n0_ n1_ n2_ n3_; (try clear hb); (try clear hb2); (try clear hk); (try clear hi)))
                 (try simp only [Act.put, List.setIfInBounds_toArray, List.set_cons_zero, List.set_cons_succ])
                 go_cut [21, 22] (fun v21 v22 wc => ∃ (kq : Nat) (x21_39 : ByteArray) (x22_39 : ByteArray), v21 = .string x21_39 ∧ v22 = .string x22_39 ∧ Aside0 (laws_FnTopOfAll.j5 kq a1 a2 t329 (wrap64 ((t329.size : Int) / 4)) x21_39 x22_39 = some r) ∧ Aside0 (kq ≤ kj29) ∧ Aside0 (Kd.R Kd.string 9 wc w.heap.size (fun k_ => some k_ ≠ ((.slice Ao13 t322.length co13) : Value).ownBlock) (.slice Ao12 t319.length co12) t319) ∧ Aside0 (Kd.R Kd.string 9 wc w.heap.size (fun k_ => some k_ ≠ ((.slice Ao12 t319.length co12) : Value).ownBlock) (.slice Ao13 t322.length co13) t322) ∧ Aside0 (wc.heap[gb326]? = some (.cells #[.int .i64 t317, .int .i64 t318, (.slice Ao12 t319.length co12), (.slice Ao13 t322.length co13)] 25 (0, 0))) ∧ Aside0 (Below w.heap.size w wc))
                 case first =>
                  have H := HC40.out
                  clear HC40
                  by_cases c42 : (wrap64 ((t329.size : Int) / 4)) > 0
                  ·rw [if_pos c42] at H
                   have c42b0 := decide_eq_true c42
                   clear c42
                   (first | rw [c42b0] | (simp only [i64_w, i32_w]; rw [c42b0]) | skip)
                   replace H := Option.bind_eq_some_iff.mp H
                   obtain ⟨⟨t338, t339⟩, A430, H⟩ := H
                   try dsimp only at H
                   have A43 := Aside0.mk A430
                   clear A430
                   replace H := Option.bind_eq_some_iff.mp H
                   obtain ⟨⟨t340, t341⟩, A440, H⟩ := H
                   try dsimp only at H
                   have A44 := Aside0.mk A440
                   clear A440
                   have HC45 := Aside0.mk H
                   clear H
                   go_upto_region 21 with (first | ((with_reducible refine gate_callee (f := 10) rfl ?_); refine goesL_ (some 121) rfl rfl Tryz.func10 Qi0_ rfl #[.int .i64 (wrap64 ((t329.size : Int) / 4)), .int .i64 4, .string t329] rfl Qb0_ ?_; (with_reducible refine (impl_BlockInterleave.calls kj29 (wrap64 ((t329.size : Int) / 4)) 4 t329 t338 t339 _ A43.out).mono ?_); rintro e w46 ⟨rfl, hb⟩; refine ⟨_, rfl, ?_⟩; have n0_ := Aside0.mk (Kd.R_below (Qr_ HO_327002.out) hb); have n1_ := Aside0.mk (Kd.R_below (Qr_ HO_327003.out) hb); have n2_ := Aside0.mk (blk_below (g := gb326) (o := .cells #[.int .i64 t317, .int .i64 t318, .slice Ao12 t319.length co12, .slice Ao13 t322.length co13] 25 (0, 0)) (Qk_ BK326.out) hb); have n3_ := Aside0.mk (below_step (Qg_ GE326.out) hb); clear HO_327002; clear HO_327003; clear BK326; clear HB; have HO_327002 := n0_; have HO_327003 := n1_; have BK326 := n2_; have HB := n3_; clear n0_ n1_ n2_ n3_; (try clear hb); (try clear hb2); (try clear hk); (try clear hi)) | ((with_reducible refine gate_callee (f := 11) rfl ?_); refine goesL_ (some 127) rfl rfl Tryz.func11 Qi0_ rfl #[.int .i64 (wrap64 ((t329.size : Int) / 4)), .int .i64 4, .string t329] rfl Qb0_ ?_; (with_reducible refine (spec_BlockInterleave.calls kj29 (wrap64 ((t329.size : Int) / 4)) 4 t329 t340 t341 _ A44.out).mono ?_); rintro e w47 ⟨rfl, hb⟩; refine ⟨_, rfl, ?_⟩; have n0_ := Aside0.mk (Kd.R_below (Qr_ HO_327002.out) hb); have n1_ := Aside0.mk (Kd.R_below (Qr_ HO_327003.out) hb); have n2_ := Aside0.mk (blk_below (g := gb326) (o := .cells #[.int .i64 t317, .int .i64 t318, .slice Ao12 t319.length co12, .slice Ao13 t322.length co13] 25 (0, 0)) (Qk_ BK326.out) hb); have n3_ := Aside0.mk (below_step (Qg_ GE326.out) hb); clear HO_327002; clear HO_327003; clear BK326; clear HB; have HO_327002 := n0_; have HO_327003 := n1_; have BK326 := n2_; have HB := n3_; clear n0_ n1_ n2_ n3_; (try clear hb); (try clear hb2); (try clear hk); (try clear hi)))
                   (try simp only [Act.put, List.setIfInBounds_toArray, List.set_cons_zero, List.set_cons_succ])
                   go_cut [137] (fun v137 wc => ∃ (kq : Nat) (x137_44 : Bool), v137 = .bool x137_44 ∧ Aside0 (laws_FnTopOfAll.j3 kq a1 a2 t329 (wrap64 ((t329.size : Int) / 4)) (((((t337 ++ (⟨#[10]⟩ : ByteArray)) ++ x20_29) ++ (⟨#[10]⟩ : ByteArray)) ++ t327) ++ (⟨#[32, 110, 111, 110, 101, 10]⟩ : ByteArray)) (((⟨#[98, 108, 111, 99, 107, 115, 32, 120, 32, 50, 32, 52, 32, 45, 49, 32]⟩ : ByteArray) ++ t327) ++ (⟨#[10, 115, 104, 111, 119, 32, 120, 10, 100, 97, 116, 97, 32, 120, 32, 50, 32, 52, 32, 45, 49, 10]⟩ : ByteArray)) t338 t339 x137_44 = some r) ∧ Aside0 (kq ≤ kj29) ∧ Aside0 (Kd.R Kd.string 9 wc w.heap.size (fun k_ => some k_ ≠ ((.slice Ao13 t322.length co13) : Value).ownBlock) (.slice Ao12 t319.length co12) t319) ∧ Aside0 (Kd.R Kd.string 9 wc w.heap.size (fun k_ => some k_ ≠ ((.slice Ao12 t319.length co12) : Value).ownBlock) (.slice Ao13 t322.length co13) t322) ∧ Aside0 (wc.heap[gb326]? = some (.cells #[.int .i64 t317, .int .i64 t318, (.slice Ao12 t319.length co12), (.slice Ao13 t322.length co13)] 25 (0, 0))) ∧ Aside0 (Below w.heap.size w wc))
                   case first =>
                    have H := HC45.out
                    clear HC45
                    by_cases c48 : (t339 != t341) = true
                    ·rw [if_pos c48] at H
                     have c48b0 : (t339 != t341) = true := c48
                     (try (have c48b1 : decide (t339 = t341) = false := by simpa using c48))
                     (try (have c48b2 : (t339 == t341) = false := by simpa using c48))
                     (try (have c48b3 : ¬ (t339 = t341) := by simpa using c48))
                     clear c48
                     (first | rw [c48b0] | (simp only [i64_w, i32_w]; rw [c48b0]) | skip)
                     have H' := Aside0.mk H
                     clear H
                     go_wp2
                     go_meet
                     case rel => exact ⟨_, (true), Qc0_, H', ⟨by have := HJ7.out; have := HJ25.out; have := HJ29.out; first | omega | exact Nat.le_refl _⟩, ⟨Qr_ HO_327002.out⟩, ⟨Qr_ HO_327003.out⟩, ⟨Qk_ BK326.out⟩, ⟨Qg_ GE326.out⟩⟩
                    ·rw [if_neg c48] at H
                     have c48b0 : (t339 != t341) = false := by simpa using c48
                     (try (have c48b1 : decide (t339 = t341) = true := by simpa using c48))
                     (try (have c48b2 : (t339 == t341) = true := by simpa using c48))
                     clear c48
                     (first | rw [c48b0] | (simp only [i64_w, i32_w]; rw [c48b0]) | skip)
                     have H' := Aside0.mk H
                     clear H
                     go_wp2
                     go_meet
                     case rel => exact ⟨_, ((t338.toList != t340.toList)), Qc0_, H', ⟨by have := HJ7.out; have := HJ25.out; have := HJ29.out; first | omega | exact Nat.le_refl _⟩, ⟨Qr_ HO_327002.out⟩, ⟨Qr_ HO_327003.out⟩, ⟨Qk_ BK326.out⟩, ⟨Qg_ GE326.out⟩⟩
                   case rest => as_aux_lemma =>
                    clear HC45
                    try clear c1
                    try clear c2
                    try clear p2
                    try clear c3
                    try clear c4
                    try clear c5
                    try clear c6
                    try clear p6
                    try clear c7
                    try clear c8
                    try clear c9
                    try clear c10
                    try clear c11
                    try clear c19
                    try clear c20
                    try clear c20b0
                    try clear c20b1
                    try clear c20b2
                    try clear c21
                    try clear c21b0
                    try clear c21b1
                    try clear c22
                    try clear c24
                    try clear c24b0
                    try clear c24b1
                    try clear c24b2
                    try clear c28
                    try clear c29
                    try clear c31
                    try clear c31b0
                    try clear c31b1
                    try clear c33
                    try clear c33b0
                    try clear c33b1
                    try clear c33b2
                    try clear c34
                    try clear c34b0
                    try clear c34b1
                    try clear c34b2
                    try clear c35
                    try clear c35b0
                    try clear c35b1
                    try clear c35b2
                    try clear c36
                    try clear c36b0
                    try clear c36b1
                    try clear c36b2
                    try clear c37
                    try clear c37b0
                    try clear c37b1
                    try clear c37b2
                    try clear c38
                    try clear c38b0
                    try clear c38b1
                    try clear c38b2
                    try clear c39
                    try clear c39b0
                    try clear c39b1
                    try clear c39b2
                    try clear c42
                    try clear c42b0
                    try clear c48
                    try clear c48b0
                    try clear c48b1
                    try clear c48b2
                    try clear hcz11_0
                    try clear hcz11_1
                    try clear hcz11_2
                    try clear hcz11_3
                    try clear hcz15_0
                    try clear hcz15_1
                    try clear hcz15_2
                    try clear hcz15_3
                    try clear hcz17_0
                    try clear hcz17_1
                    try clear hcz17_2
                    try clear hcz17_3
                    try clear hfz11_0
                    try clear hfz11_1
                    try clear hfz11_2
                    try clear hfz11_3
                    try clear hfz15_0
                    try clear hfz15_1
                    try clear hfz15_2
                    try clear hfz15_3
                    try clear hfz17_0
                    try clear hfz17_1
                    try clear hfz17_2
                    try clear hfz17_3
                    try clear p2
                    try clear p6
                    obtain ⟨kq, x137_44, rfl, HA, HJ44, HO_327002, HO_327003, BK326, HB⟩ := hcut
                    cases kq with
                    | zero => exact absurd HA.out (by simp [laws_FnTopOfAll.j3])
                    | succ kj44 =>
                     have H := HA.out
                     clear HA
                     simp only [laws_FnTopOfAll.j3] at H
                     by_cases c49 : x137_44 = true
                     ·subst c49
                      rw [if_pos rfl] at H
                      have H1 := H
                      clear H
                      have H := H1
                      clear H1
                      obtain rfl := Option.some.inj H
                      go_wp2
                      go_ret
                      exact ⟨Qe0_, Qg_ GE326.out⟩
                     ·replace c49 := Bool.eq_false_iff.mpr c49
                      subst c49
                      rw [if_neg (show ¬ (false = true) by decide)] at H
                      have H1 := H
                      clear H
                      have H := H1
                      clear H1
                      by_cases c50 : t339 = true
                      ·subst c50
                       rw [if_pos rfl] at H
                       have H1 := H
                       clear H
                       have H := H1
                       clear H1
                       replace H := Option.bind_eq_some_iff.mp H
                       obtain ⟨⟨t342, t343⟩, A510, H⟩ := H
                       try dsimp only at H
                       have A51 := Aside0.mk A510
                       clear A510
                       have HC52 := Aside0.mk H
                       clear H
                       go_upto_region 25 with (first | ((with_reducible refine gate_callee (f := 12) rfl ?_); refine goesL_ (some 142) rfl rfl Tryz.func12 Qi0_ rfl #[.int .i64 (wrap64 ((t329.size : Int) / 4)), .int .i64 4, .string t338] rfl Qb0_ ?_; (with_reducible refine (impl_BlockDeinterleave.calls kj44 (wrap64 ((t329.size : Int) / 4)) 4 t338 t342 t343 _ A51.out).mono ?_); rintro e w53 ⟨rfl, hb⟩; refine ⟨_, rfl, ?_⟩; have n0_ := Aside0.mk (Kd.R_below (Qr_ HO_327002.out) hb); have n1_ := Aside0.mk (Kd.R_below (Qr_ HO_327003.out) hb); have n2_ := Aside0.mk (blk_below (g := gb326) (o := .cells #[.int .i64 t317, .int .i64 t318, .slice Ao12 t319.length co12, .slice Ao13 t322.length co13] 25 (0, 0)) (Qk_ BK326.out) hb); have n3_ := Aside0.mk (below_step (Qg_ GE326.out) hb); clear HO_327002; clear HO_327003; clear BK326; clear HB; have HO_327002 := n0_; have HO_327003 := n1_; have BK326 := n2_; have HB := n3_; clear n0_ n1_ n2_ n3_; (try clear hb); (try clear hb2); (try clear hk); (try clear hi)))
                       (try simp only [Act.put, List.setIfInBounds_toArray, List.set_cons_zero, List.set_cons_succ])
                       go_cut [151] (fun v151 wc => ∃ (kq : Nat) (x151_51 : Bool), v151 = .bool x151_51 ∧ Aside0 (laws_FnTopOfAll.j4 kq a1 a2 t329 (wrap64 ((t329.size : Int) / 4)) (((((t337 ++ (⟨#[10]⟩ : ByteArray)) ++ x20_29) ++ (⟨#[10]⟩ : ByteArray)) ++ t327) ++ (⟨#[32, 110, 111, 110, 101, 10]⟩ : ByteArray)) (((⟨#[98, 108, 111, 99, 107, 115, 32, 120, 32, 50, 32, 52, 32, 45, 49, 32]⟩ : ByteArray) ++ t327) ++ (⟨#[10, 115, 104, 111, 119, 32, 120, 10, 100, 97, 116, 97, 32, 120, 32, 50, 32, 52, 32, 45, 49, 10]⟩ : ByteArray)) t338 x151_51 = some r) ∧ Aside0 (kq ≤ kj44) ∧ Aside0 (Kd.R Kd.string 9 wc w.heap.size (fun k_ => some k_ ≠ ((.slice Ao13 t322.length co13) : Value).ownBlock) (.slice Ao12 t319.length co12) t319) ∧ Aside0 (Kd.R Kd.string 9 wc w.heap.size (fun k_ => some k_ ≠ ((.slice Ao12 t319.length co12) : Value).ownBlock) (.slice Ao13 t322.length co13) t322) ∧ Aside0 (wc.heap[gb326]? = some (.cells #[.int .i64 t317, .int .i64 t318, (.slice Ao12 t319.length co12), (.slice Ao13 t322.length co13)] 25 (0, 0))) ∧ Aside0 (Below w.heap.size w wc))
                       case first =>
                        have H := HC52.out
                        clear HC52
                        by_cases c54 : t343 = true
                        ·subst c54
                         rw [if_pos rfl] at H
                         have H1 := H
                         clear H
                         have H := H1
                         clear H1
                         have H' := Aside0.mk H
                         clear H
                         go_wp2
                         go_meet
                         case rel => exact ⟨_, ((t342.toList != t329.toList)), Qc0_, H', ⟨by have := HJ7.out; have := HJ25.out; have := HJ29.out; have := HJ44.out; first | omega | exact Nat.le_refl _⟩, ⟨Qr_ HO_327002.out⟩, ⟨Qr_ HO_327003.out⟩, ⟨Qk_ BK326.out⟩, ⟨Qg_ GE326.out⟩⟩
                        ·replace c54 := Bool.eq_false_iff.mpr c54
                         subst c54
                         rw [if_neg (show ¬ (false = true) by decide)] at H
                         have H1 := H
                         clear H
                         have H := H1
                         clear H1
                         have H' := Aside0.mk H
                         clear H
                         go_wp2
                         go_meet
                         case rel => exact ⟨_, (true), Qc0_, H', ⟨by have := HJ7.out; have := HJ25.out; have := HJ29.out; have := HJ44.out; first | omega | exact Nat.le_refl _⟩, ⟨Qr_ HO_327002.out⟩, ⟨Qr_ HO_327003.out⟩, ⟨Qk_ BK326.out⟩, ⟨Qg_ GE326.out⟩⟩
                       case rest => as_aux_lemma =>
                        clear HC52
                        try clear c1
                        try clear c2
                        try clear p2
                        try clear c3
                        try clear c4
                        try clear c5
                        try clear c6
                        try clear p6
                        try clear c7
                        try clear c8
                        try clear c9
                        try clear c10
                        try clear c11
                        try clear c12
                        try clear c19
                        try clear c20
                        try clear c20b0
                        try clear c20b1
                        try clear c20b2
                        try clear c21
                        try clear c21b0
                        try clear c21b1
                        try clear c22
                        try clear c24
                        try clear c24b0
                        try clear c24b1
                        try clear c24b2
                        try clear c28
                        try clear c29
                        try clear c31
                        try clear c31b0
                        try clear c31b1
                        try clear c33
                        try clear c33b0
                        try clear c33b1
                        try clear c33b2
                        try clear c34
                        try clear c34b0
                        try clear c34b1
                        try clear c34b2
                        try clear c35
                        try clear c35b0
                        try clear c35b1
                        try clear c35b2
                        try clear c36
                        try clear c36b0
                        try clear c36b1
                        try clear c36b2
                        try clear c37
                        try clear c37b0
                        try clear c37b1
                        try clear c37b2
                        try clear c38
                        try clear c38b0
                        try clear c38b1
                        try clear c38b2
                        try clear c39
                        try clear c39b0
                        try clear c39b1
                        try clear c39b2
                        try clear c42
                        try clear c42b0
                        try clear c48
                        try clear c48b0
                        try clear c48b1
                        try clear c48b2
                        try clear c49
                        try clear c50
                        try clear c54
                        try clear hcz11_0
                        try clear hcz11_1
                        try clear hcz11_2
                        try clear hcz11_3
                        try clear hcz15_0
                        try clear hcz15_1
                        try clear hcz15_2
                        try clear hcz15_3
                        try clear hcz17_0
                        try clear hcz17_1
                        try clear hcz17_2
                        try clear hcz17_3
                        try clear hfz11_0
                        try clear hfz11_1
                        try clear hfz11_2
                        try clear hfz11_3
                        try clear hfz15_0
                        try clear hfz15_1
                        try clear hfz15_2
                        try clear hfz15_3
                        try clear hfz17_0
                        try clear hfz17_1
                        try clear hfz17_2
                        try clear hfz17_3
                        try clear p2
                        try clear p6
                        obtain ⟨kq, x151_51, rfl, HA, HJ51, HO_327002, HO_327003, BK326, HB⟩ := hcut
                        cases kq with
                        | zero => exact absurd HA.out (by simp [laws_FnTopOfAll.j4])
                        | succ kj51 =>
                         have H := HA.out
                         clear HA
                         simp only [laws_FnTopOfAll.j4] at H
                         by_cases c55 : x151_51 = true
                         ·subst c55
                          rw [if_pos rfl] at H
                          have H1 := H
                          clear H
                          have H := H1
                          clear H1
                          obtain rfl := Option.some.inj H
                          go_wp2
                          go_ret
                          exact ⟨Qe0_, Qg_ GE326.out⟩
                         ·replace c55 := Bool.eq_false_iff.mpr c55
                          subst c55
                          rw [if_neg (show ¬ (false = true) by decide)] at H
                          have H1 := H
                          clear H
                          have H := H1
                          clear H1
                          replace H := Option.bind_eq_some_iff.mp H
                          obtain ⟨t344, A560, H⟩ := H
                          try dsimp only at H
                          have A56 := Aside0.mk A560
                          clear A560
                          by_cases c57 : 8 + t344.size ≤ 9223372036854775807
                          ·rw [if_pos c57] at H
                           have c57b0 := eq_true c57
                           have c57b1 := decide_eq_true c57
                           try have c57b2 := eq_false (Nat.not_lt.2 c57)
                           by_cases c58 : ((⟨#[108, 97, 121, 32, 121, 32, 120, 32]⟩ : ByteArray) ++ t344).size + 20 ≤ 9223372036854775807
                           ·rw [if_pos c58] at H
                            have c58b0 := eq_true c58
                            have c58b1 := decide_eq_true c58
                            try have c58b2 := eq_false (Nat.not_lt.2 c58)
                            try have c58b4 : (9223372036854775807 < (8 + t344.size) + 20) = False := eq_false (Nat.not_lt.2 (by have q_ := c58; simp only [ByteArray.size_append] at q_; exact q_))
                            replace H := Option.bind_eq_some_iff.mp H
                            obtain ⟨t345, A590, H⟩ := H
                            try dsimp only at H
                            have A59 := Aside0.mk A590
                            clear A590
                            by_cases c60 : (((⟨#[108, 97, 121, 32, 121, 32, 120, 32]⟩ : ByteArray) ++ t344) ++ (⟨#[32, 52, 10, 115, 104, 111, 119, 32, 121, 10, 117, 110, 108, 97, 121, 32, 121, 32, 121, 32]⟩ : ByteArray)).size + t345.size ≤ 9223372036854775807
                            ·rw [if_pos c60] at H
                             have c60b0 := eq_true c60
                             have c60b1 := decide_eq_true c60
                             try have c60b2 := eq_false (Nat.not_lt.2 c60)
                             try have c60b4 : (9223372036854775807 < ((8 + t344.size) + 20) + t345.size) = False := eq_false (Nat.not_lt.2 (by have q_ := c60; simp only [ByteArray.size_append] at q_; exact q_))
                             by_cases c61 : ((((⟨#[108, 97, 121, 32, 121, 32, 120, 32]⟩ : ByteArray) ++ t344) ++ (⟨#[32, 52, 10, 115, 104, 111, 119, 32, 121, 10, 117, 110, 108, 97, 121, 32, 121, 32, 121, 32]⟩ : ByteArray)) ++ t345).size + 10 ≤ 9223372036854775807
                             ·rw [if_pos c61] at H
                              have c61b0 := eq_true c61
                              have c61b1 := decide_eq_true c61
                              try have c61b2 := eq_false (Nat.not_lt.2 c61)
                              try have c61b4 : (9223372036854775807 < (((8 + t344.size) + 20) + t345.size) + 10) = False := eq_false (Nat.not_lt.2 (by have q_ := c61; simp only [ByteArray.size_append] at q_; exact q_))
                              by_cases c62 : (((⟨#[98, 108, 111, 99, 107, 115, 32, 120, 32, 50, 32, 52, 32, 45, 49, 32]⟩ : ByteArray) ++ t327) ++ (⟨#[10, 115, 104, 111, 119, 32, 120, 10, 100, 97, 116, 97, 32, 120, 32, 50, 32, 52, 32, 45, 49, 10]⟩ : ByteArray)).size + (((((⟨#[108, 97, 121, 32, 121, 32, 120, 32]⟩ : ByteArray) ++ t344) ++ (⟨#[32, 52, 10, 115, 104, 111, 119, 32, 121, 10, 117, 110, 108, 97, 121, 32, 121, 32, 121, 32]⟩ : ByteArray)) ++ t345) ++ (⟨#[32, 52, 10, 115, 104, 111, 119, 32, 121, 10]⟩ : ByteArray)).size ≤ 9223372036854775807
                              ·rw [if_pos c62] at H
                               have c62b0 := eq_true c62
                               have c62b1 := decide_eq_true c62
                               try have c62b2 := eq_false (Nat.not_lt.2 c62)
                               try have c62b4 : (9223372036854775807 < ((16 + t327.size) + 22) + ((((8 + t344.size) + 20) + t345.size) + 10)) = False := eq_false (Nat.not_lt.2 (by have q_ := c62; simp only [ByteArray.size_append] at q_; exact q_))
                               by_cases c63 : 3 + t338.size ≤ 9223372036854775807
                               ·rw [if_pos c63] at H
                                have c63b0 := eq_true c63
                                have c63b1 := decide_eq_true c63
                                try have c63b2 := eq_false (Nat.not_lt.2 c63)
                                by_cases c64 : ((⟨#[111, 107, 10]⟩ : ByteArray) ++ t338).size + 4 ≤ 9223372036854775807
                                ·rw [if_pos c64] at H
                                 have c64b0 := eq_true c64
                                 have c64b1 := decide_eq_true c64
                                 try have c64b2 := eq_false (Nat.not_lt.2 c64)
                                 try have c64b4 : (9223372036854775807 < (3 + t338.size) + 4) = False := eq_false (Nat.not_lt.2 (by have q_ := c64; simp only [ByteArray.size_append] at q_; exact q_))
                                 by_cases c65 : (((⟨#[111, 107, 10]⟩ : ByteArray) ++ t338) ++ (⟨#[10, 111, 107, 10]⟩ : ByteArray)).size + t329.size ≤ 9223372036854775807
                                 ·rw [if_pos c65] at H
                                  have c65b0 := eq_true c65
                                  have c65b1 := decide_eq_true c65
                                  try have c65b2 := eq_false (Nat.not_lt.2 c65)
                                  try have c65b4 : (9223372036854775807 < ((3 + t338.size) + 4) + t329.size) = False := eq_false (Nat.not_lt.2 (by have q_ := c65; simp only [ByteArray.size_append] at q_; exact q_))
                                  by_cases c66 : ((((⟨#[111, 107, 10]⟩ : ByteArray) ++ t338) ++ (⟨#[10, 111, 107, 10]⟩ : ByteArray)) ++ t329).size + 1 ≤ 9223372036854775807
                                  ·rw [if_pos c66] at H
                                   have c66b0 := eq_true c66
                                   have c66b1 := decide_eq_true c66
                                   try have c66b2 := eq_false (Nat.not_lt.2 c66)
                                   try have c66b4 : (9223372036854775807 < (((3 + t338.size) + 4) + t329.size) + 1) = False := eq_false (Nat.not_lt.2 (by have q_ := c66; simp only [ByteArray.size_append] at q_; exact q_))
                                   by_cases c67 : (((((t337 ++ (⟨#[10]⟩ : ByteArray)) ++ x20_29) ++ (⟨#[10]⟩ : ByteArray)) ++ t327) ++ (⟨#[32, 110, 111, 110, 101, 10]⟩ : ByteArray)).size + (((((⟨#[111, 107, 10]⟩ : ByteArray) ++ t338) ++ (⟨#[10, 111, 107, 10]⟩ : ByteArray)) ++ t329) ++ (⟨#[10]⟩ : ByteArray)).size ≤ 9223372036854775807
                                   ·rw [if_pos c67] at H
                                    have c67b0 := eq_true c67
                                    have c67b1 := decide_eq_true c67
                                    try have c67b2 := eq_false (Nat.not_lt.2 c67)
                                    try have c67b4 : (9223372036854775807 < (((((t337.size + 1) + x20_29.size) + 1) + t327.size) + 6) + ((((3 + t338.size) + 4) + t329.size) + 1)) = False := eq_false (Nat.not_lt.2 (by have q_ := c67; simp only [ByteArray.size_append] at q_; exact q_))
                                    have H' := Aside0.mk H
                                    clear H
                                    go_wp2_with (first | ((with_reducible refine gate_callee (f := 9) rfl ?_); refine goesL_ (some 154) rfl rfl Tryz.func9 Qi0_ rfl #[.int .i64 (wrap64 ((t329.size : Int) / 4))] rfl Qb0_ ?_; (with_reducible refine (impl_Decimal.calls (wrap64 ((t329.size : Int) / 4)) t344 _ ?tb A56.out).mono ?_); (case tb => exact Qg0_); rintro e w68 ⟨rfl, hb⟩; refine ⟨_, rfl, ?_⟩; have n0_ := Aside0.mk (Kd.R_below (Qr_ HO_327002.out) hb); have n1_ := Aside0.mk (Kd.R_below (Qr_ HO_327003.out) hb); have n2_ := Aside0.mk (blk_below (g := gb326) (o := .cells #[.int .i64 t317, .int .i64 t318, .slice Ao12 t319.length co12, .slice Ao13 t322.length co13] 25 (0, 0)) (Qk_ BK326.out) hb); have n3_ := Aside0.mk (below_step (Qg_ GE326.out) hb); clear HO_327002; clear HO_327003; clear BK326; clear HB; have HO_327002 := n0_; have HO_327003 := n1_; have BK326 := n2_; have HB := n3_; clear n0_ n1_ n2_ n3_; (try clear hb); (try clear hb2); (try clear hk); (try clear hi)) | ((with_reducible refine gate_callee (f := 9) rfl ?_); refine goesL_ (some 158) rfl rfl Tryz.func9 Qi0_ rfl #[.int .i64 (wrap64 ((t329.size : Int) / 4))] rfl Qb0_ ?_; (with_reducible refine (impl_Decimal.calls (wrap64 ((t329.size : Int) / 4)) t345 _ ?tb A59.out).mono ?_); (case tb => exact Qg0_); rintro e w69 ⟨rfl, hb⟩; refine ⟨_, rfl, ?_⟩; have n0_ := Aside0.mk (Kd.R_below (Qr_ HO_327002.out) hb); have n1_ := Aside0.mk (Kd.R_below (Qr_ HO_327003.out) hb); have n2_ := Aside0.mk (blk_below (g := gb326) (o := .cells #[.int .i64 t317, .int .i64 t318, .slice Ao12 t319.length co12, .slice Ao13 t322.length co13] 25 (0, 0)) (Qk_ BK326.out) hb); have n3_ := Aside0.mk (below_step (Qg_ GE326.out) hb); clear HO_327002; clear HO_327003; clear BK326; clear HB; have HO_327002 := n0_; have HO_327003 := n1_; have BK326 := n2_; have HB := n3_; clear n0_ n1_ n2_ n3_; (try clear hb); (try clear hb2); (try clear hk); (try clear hi)))
                                    go_meet
                                    case rel => exact ⟨_, ((((((t337 ++ (⟨#[10]⟩ : ByteArray)) ++ x20_29) ++ (⟨#[10]⟩ : ByteArray)) ++ t327) ++ (⟨#[32, 110, 111, 110, 101, 10]⟩ : ByteArray)) ++ (((((⟨#[111, 107, 10]⟩ : ByteArray) ++ t338) ++ (⟨#[10, 111, 107, 10]⟩ : ByteArray)) ++ t329) ++ (⟨#[10]⟩ : ByteArray))), ((((⟨#[98, 108, 111, 99, 107, 115, 32, 120, 32, 50, 32, 52, 32, 45, 49, 32]⟩ : ByteArray) ++ t327) ++ (⟨#[10, 115, 104, 111, 119, 32, 120, 10, 100, 97, 116, 97, 32, 120, 32, 50, 32, 52, 32, 45, 49, 10]⟩ : ByteArray)) ++ (((((⟨#[108, 97, 121, 32, 121, 32, 120, 32]⟩ : ByteArray) ++ t344) ++ (⟨#[32, 52, 10, 115, 104, 111, 119, 32, 121, 10, 117, 110, 108, 97, 121, 32, 121, 32, 121, 32]⟩ : ByteArray)) ++ t345) ++ (⟨#[32, 52, 10, 115, 104, 111, 119, 32, 121, 10]⟩ : ByteArray))), Qc1_, Qc0_, H', ⟨by have := HJ7.out; have := HJ25.out; have := HJ29.out; have := HJ44.out; have := HJ51.out; first | omega | exact Nat.le_refl _⟩, ⟨Qr_ HO_327002.out⟩, ⟨Qr_ HO_327003.out⟩, ⟨Qk_ BK326.out⟩, ⟨Qg_ GE326.out⟩⟩
                                   ·rw [if_neg c67] at H
                                    exact absurd H (by simp)
                                  ·rw [if_neg c66] at H
                                   exact absurd H (by simp)
                                 ·rw [if_neg c65] at H
                                  exact absurd H (by simp)
                                ·rw [if_neg c64] at H
                                 exact absurd H (by simp)
                               ·rw [if_neg c63] at H
                                exact absurd H (by simp)
                              ·rw [if_neg c62] at H
                               exact absurd H (by simp)
                             ·rw [if_neg c61] at H
                              exact absurd H (by simp)
                            ·rw [if_neg c60] at H
                             exact absurd H (by simp)
                           ·rw [if_neg c58] at H
                            exact absurd H (by simp)
                          ·rw [if_neg c57] at H
                           exact absurd H (by simp)
                      ·replace c50 := Bool.eq_false_iff.mpr c50
                       subst c50
                       rw [if_neg (show ¬ (false = true) by decide)] at H
                       have H1 := H
                       clear H
                       have H := H1
                       clear H1
                       have H' := Aside0.mk H
                       clear H
                       go_wp2
                       go_meet
                       case rel => exact ⟨_, ((((((t337 ++ (⟨#[10]⟩ : ByteArray)) ++ x20_29) ++ (⟨#[10]⟩ : ByteArray)) ++ t327) ++ (⟨#[32, 110, 111, 110, 101, 10]⟩ : ByteArray))), ((((⟨#[98, 108, 111, 99, 107, 115, 32, 120, 32, 50, 32, 52, 32, 45, 49, 32]⟩ : ByteArray) ++ t327) ++ (⟨#[10, 115, 104, 111, 119, 32, 120, 10, 100, 97, 116, 97, 32, 120, 32, 50, 32, 52, 32, 45, 49, 10]⟩ : ByteArray))), Qc1_, Qc0_, H', ⟨by have := HJ7.out; have := HJ25.out; have := HJ29.out; have := HJ44.out; first | omega | exact Nat.le_refl _⟩, ⟨Qr_ HO_327002.out⟩, ⟨Qr_ HO_327003.out⟩, ⟨Qk_ BK326.out⟩, ⟨Qg_ GE326.out⟩⟩
                  ·rw [if_neg c42] at H
                   have c42b0 := decide_eq_false c42
                   clear c42
                   (first | rw [c42b0] | (simp only [i64_w, i32_w]; rw [c42b0]) | skip)
                   have H' := Aside0.mk H
                   clear H
                   go_wp2
                   go_meet
                   case rel => exact ⟨_, (((((t337 ++ (⟨#[10]⟩ : ByteArray)) ++ x20_29) ++ (⟨#[10]⟩ : ByteArray)) ++ t327) ++ (⟨#[32, 110, 111, 110, 101, 10]⟩ : ByteArray)), (((⟨#[98, 108, 111, 99, 107, 115, 32, 120, 32, 50, 32, 52, 32, 45, 49, 32]⟩ : ByteArray) ++ t327) ++ (⟨#[10, 115, 104, 111, 119, 32, 120, 10, 100, 97, 116, 97, 32, 120, 32, 50, 32, 52, 32, 45, 49, 10]⟩ : ByteArray)), Qc1_, Qc0_, H', ⟨by have := HJ7.out; have := HJ25.out; have := HJ29.out; first | omega | exact Nat.le_refl _⟩, ⟨Qr_ HO_327002.out⟩, ⟨Qr_ HO_327003.out⟩, ⟨Qk_ BK326.out⟩, ⟨Qg_ GE326.out⟩⟩
                 case rest => as_aux_lemma =>
                  clear HC40
                  try clear c1
                  try clear c2
                  try clear p2
                  try clear c3
                  try clear c4
                  try clear c5
                  try clear c6
                  try clear p6
                  try clear c7
                  try clear c8
                  try clear c9
                  try clear c10
                  try clear c11
                  try clear c12
                  try clear c19
                  try clear c20
                  try clear c20b0
                  try clear c20b1
                  try clear c20b2
                  try clear c21
                  try clear c21b0
                  try clear c21b1
                  try clear c22
                  try clear c24
                  try clear c24b0
                  try clear c24b1
                  try clear c24b2
                  try clear c28
                  try clear c29
                  try clear c31
                  try clear c31b0
                  try clear c31b1
                  try clear c33
                  try clear c33b0
                  try clear c33b1
                  try clear c33b2
                  try clear c34
                  try clear c34b0
                  try clear c34b1
                  try clear c34b2
                  try clear c35
                  try clear c35b0
                  try clear c35b1
                  try clear c35b2
                  try clear c36
                  try clear c36b0
                  try clear c36b1
                  try clear c36b2
                  try clear c37
                  try clear c37b0
                  try clear c37b1
                  try clear c37b2
                  try clear c38
                  try clear c38b0
                  try clear c38b1
                  try clear c38b2
                  try clear c39
                  try clear c39b0
                  try clear c39b1
                  try clear c39b2
                  try clear c42
                  try clear c42b0
                  try clear c48
                  try clear c48b0
                  try clear c48b1
                  try clear c48b2
                  try clear c49
                  try clear c50
                  try clear c54
                  try clear c55
                  try clear c57
                  try clear c57b0
                  try clear c57b1
                  try clear c57b2
                  try clear c58
                  try clear c58b0
                  try clear c58b1
                  try clear c58b2
                  try clear c60
                  try clear c60b0
                  try clear c60b1
                  try clear c60b2
                  try clear c61
                  try clear c61b0
                  try clear c61b1
                  try clear c61b2
                  try clear c62
                  try clear c62b0
                  try clear c62b1
                  try clear c62b2
                  try clear c63
                  try clear c63b0
                  try clear c63b1
                  try clear c63b2
                  try clear c64
                  try clear c64b0
                  try clear c64b1
                  try clear c64b2
                  try clear p64
                  try clear c65
                  try clear c65b0
                  try clear c65b1
                  try clear c65b2
                  try clear c66
                  try clear c66b0
                  try clear c66b1
                  try clear c66b2
                  try clear c67
                  try clear c67b0
                  try clear c67b1
                  try clear c67b2
                  try clear hcz11_0
                  try clear hcz11_1
                  try clear hcz11_2
                  try clear hcz11_3
                  try clear hcz15_0
                  try clear hcz15_1
                  try clear hcz15_2
                  try clear hcz15_3
                  try clear hcz17_0
                  try clear hcz17_1
                  try clear hcz17_2
                  try clear hcz17_3
                  try clear hfz11_0
                  try clear hfz11_1
                  try clear hfz11_2
                  try clear hfz11_3
                  try clear hfz15_0
                  try clear hfz15_1
                  try clear hfz15_2
                  try clear hfz15_3
                  try clear hfz17_0
                  try clear hfz17_1
                  try clear hfz17_2
                  try clear hfz17_3
                  try clear p2
                  try clear p6
                  obtain ⟨kq, x21_39, x22_39, rfl, rfl, HA, HJ39, HO_327002, HO_327003, BK326, HB⟩ := hcut
                  cases kq with
                  | zero => exact absurd HA.out (by simp [laws_FnTopOfAll.j5])
                  | succ kj39 =>
                   have H := HA.out
                   clear HA
                   simp only [laws_FnTopOfAll.j5] at H
                   replace H := Option.bind_eq_some_iff.mp H
                   obtain ⟨⟨t346, t347⟩, A700, H⟩ := H
                   try dsimp only at H
                   have A70 := Aside0.mk A700
                   clear A700
                   replace H := Option.bind_eq_some_iff.mp H
                   obtain ⟨⟨t348, t349⟩, A710, H⟩ := H
                   try dsimp only at H
                   have A71 := Aside0.mk A710
                   clear A710
                   replace H := Option.bind_eq_some_iff.mp H
                   obtain ⟨⟨t350, t351⟩, A720, H⟩ := H
                   try dsimp only at H
                   have A72 := Aside0.mk A720
                   clear A720
                   have HC73 := Aside0.mk H
                   clear H
                   go_upto_region 32 with (first | ((with_reducible refine gate_callee (f := 13) rfl ?_); refine goesL_ (some 172) rfl rfl Tryz.func13 Qi0_ rfl #[.string t329, .int .i64 3] rfl Qb0_ ?_; (with_reducible refine (impl_RepeatBits.calls kj39 t329 3 t346 t347 _ A70.out).mono ?_); rintro e w74 ⟨rfl, hb⟩; refine ⟨_, rfl, ?_⟩; have n0_ := Aside0.mk (Kd.R_below (Qr_ HO_327002.out) hb); have n1_ := Aside0.mk (Kd.R_below (Qr_ HO_327003.out) hb); have n2_ := Aside0.mk (blk_below (g := gb326) (o := .cells #[.int .i64 t317, .int .i64 t318, .slice Ao12 t319.length co12, .slice Ao13 t322.length co13] 25 (0, 0)) (Qk_ BK326.out) hb); have n3_ := Aside0.mk (below_step (Qg_ GE326.out) hb); clear HO_327002; clear HO_327003; clear BK326; clear HB; have HO_327002 := n0_; have HO_327003 := n1_; have BK326 := n2_; have HB := n3_; clear n0_ n1_ n2_ n3_; (try clear hb); (try clear hb2); (try clear hk); (try clear hi)) | ((with_reducible refine gate_callee (f := 14) rfl ?_); refine goesL_ (some 178) rfl rfl Tryz.func14 Qi0_ rfl #[.int .i64 a1, .string t329] rfl Qb0_ ?_; (with_reducible refine (impl_AddCheck.calls kj39 a1 t329 t348 t349 _ A71.out).mono ?_); rintro e w75 ⟨rfl, hb⟩; refine ⟨_, rfl, ?_⟩; have n0_ := Aside0.mk (Kd.R_below (Qr_ HO_327002.out) hb); have n1_ := Aside0.mk (Kd.R_below (Qr_ HO_327003.out) hb); have n2_ := Aside0.mk (blk_below (g := gb326) (o := .cells #[.int .i64 t317, .int .i64 t318, .slice Ao12 t319.length co12, .slice Ao13 t322.length co13] 25 (0, 0)) (Qk_ BK326.out) hb); have n3_ := Aside0.mk (below_step (Qg_ GE326.out) hb); clear HO_327002; clear HO_327003; clear BK326; clear HB; have HO_327002 := n0_; have HO_327003 := n1_; have BK326 := n2_; have HB := n3_; clear n0_ n1_ n2_ n3_; (try clear hb); (try clear hb2); (try clear hk); (try clear hi)) | ((with_reducible refine gate_callee (f := 15) rfl ?_); refine goesL_ (some 183) rfl rfl Tryz.func15 Qi0_ rfl #[.string t329, .int .i64 3] rfl Qb0_ ?_; (with_reducible refine (spec_RepeatBits.calls kj39 t329 3 t350 t351 _ A72.out).mono ?_); rintro e w76 ⟨rfl, hb⟩; refine ⟨_, rfl, ?_⟩; have n0_ := Aside0.mk (Kd.R_below (Qr_ HO_327002.out) hb); have n1_ := Aside0.mk (Kd.R_below (Qr_ HO_327003.out) hb); have n2_ := Aside0.mk (blk_below (g := gb326) (o := .cells #[.int .i64 t317, .int .i64 t318, .slice Ao12 t319.length co12, .slice Ao13 t322.length co13] 25 (0, 0)) (Qk_ BK326.out) hb); have n3_ := Aside0.mk (below_step (Qg_ GE326.out) hb); clear HO_327002; clear HO_327003; clear BK326; clear HB; have HO_327002 := n0_; have HO_327003 := n1_; have BK326 := n2_; have HB := n3_; clear n0_ n1_ n2_ n3_; (try clear hb); (try clear hb2); (try clear hk); (try clear hi)))
                   (try simp only [Act.put, List.setIfInBounds_toArray, List.set_cons_zero, List.set_cons_succ])
                   go_cut [193] (fun v193 wc => ∃ (kq : Nat) (x193_72 : Bool), v193 = .bool x193_72 ∧ Aside0 (laws_FnTopOfAll.j6 kq a1 a2 t329 (wrap64 ((t329.size : Int) / 4)) x21_39 x22_39 t346 t347 t348 t349 x193_72 = some r) ∧ Aside0 (kq ≤ kj39) ∧ Aside0 (Kd.R Kd.string 9 wc w.heap.size (fun k_ => some k_ ≠ ((.slice Ao13 t322.length co13) : Value).ownBlock) (.slice Ao12 t319.length co12) t319) ∧ Aside0 (Kd.R Kd.string 9 wc w.heap.size (fun k_ => some k_ ≠ ((.slice Ao12 t319.length co12) : Value).ownBlock) (.slice Ao13 t322.length co13) t322) ∧ Aside0 (wc.heap[gb326]? = some (.cells #[.int .i64 t317, .int .i64 t318, (.slice Ao12 t319.length co12), (.slice Ao13 t322.length co13)] 25 (0, 0))) ∧ Aside0 (Below w.heap.size w wc))
                   case first =>
                    have H := HC73.out
                    clear HC73
                    by_cases c77 : (t347 != t351) = true
                    ·rw [if_pos c77] at H
                     have c77b0 : (t347 != t351) = true := c77
                     (try (have c77b1 : decide (t347 = t351) = false := by simpa using c77))
                     (try (have c77b2 : (t347 == t351) = false := by simpa using c77))
                     (try (have c77b3 : ¬ (t347 = t351) := by simpa using c77))
                     clear c77
                     (first | rw [c77b0] | (simp only [i64_w, i32_w]; rw [c77b0]) | skip)
                     have H' := Aside0.mk H
                     clear H
                     go_wp2
                     go_meet
                     case rel => exact ⟨_, (true), Qc0_, H', ⟨by have := HJ7.out; have := HJ25.out; have := HJ29.out; have := HJ39.out; first | omega | exact Nat.le_refl _⟩, ⟨Qr_ HO_327002.out⟩, ⟨Qr_ HO_327003.out⟩, ⟨Qk_ BK326.out⟩, ⟨Qg_ GE326.out⟩⟩
                    ·rw [if_neg c77] at H
                     have c77b0 : (t347 != t351) = false := by simpa using c77
                     (try (have c77b1 : decide (t347 = t351) = true := by simpa using c77))
                     (try (have c77b2 : (t347 == t351) = true := by simpa using c77))
                     clear c77
                     (first | rw [c77b0] | (simp only [i64_w, i32_w]; rw [c77b0]) | skip)
                     have H' := Aside0.mk H
                     clear H
                     go_wp2
                     go_meet
                     case rel => exact ⟨_, ((t346.toList != t350.toList)), Qc0_, H', ⟨by have := HJ7.out; have := HJ25.out; have := HJ29.out; have := HJ39.out; first | omega | exact Nat.le_refl _⟩, ⟨Qr_ HO_327002.out⟩, ⟨Qr_ HO_327003.out⟩, ⟨Qk_ BK326.out⟩, ⟨Qg_ GE326.out⟩⟩
                   case rest => as_aux_lemma =>
                    clear HC73
                    try clear c1
                    try clear c2
                    try clear p2
                    try clear c3
                    try clear c4
                    try clear c5
                    try clear c6
                    try clear p6
                    try clear c7
                    try clear c8
                    try clear c9
                    try clear c10
                    try clear c11
                    try clear c12
                    try clear c13
                    try clear c14
                    try clear c15
                    try clear c19
                    try clear c20
                    try clear c20b0
                    try clear c20b1
                    try clear c20b2
                    try clear c21
                    try clear c21b0
                    try clear c21b1
                    try clear c22
                    try clear c24
                    try clear c24b0
                    try clear c24b1
                    try clear c24b2
                    try clear c28
                    try clear c29
                    try clear c31
                    try clear c31b0
                    try clear c31b1
                    try clear c33
                    try clear c33b0
                    try clear c33b1
                    try clear c33b2
                    try clear c34
                    try clear c34b0
                    try clear c34b1
                    try clear c34b2
                    try clear c35
                    try clear c35b0
                    try clear c35b1
                    try clear c35b2
                    try clear c36
                    try clear c36b0
                    try clear c36b1
                    try clear c36b2
                    try clear c37
                    try clear c37b0
                    try clear c37b1
                    try clear c37b2
                    try clear c38
                    try clear c38b0
                    try clear c38b1
                    try clear c38b2
                    try clear c39
                    try clear c39b0
                    try clear c39b1
                    try clear c39b2
                    try clear c42
                    try clear c42b0
                    try clear c48
                    try clear c48b0
                    try clear c48b1
                    try clear c48b2
                    try clear c49
                    try clear c50
                    try clear c54
                    try clear c55
                    try clear c57
                    try clear c57b0
                    try clear c57b1
                    try clear c57b2
                    try clear c58
                    try clear c58b0
                    try clear c58b1
                    try clear c58b2
                    try clear c60
                    try clear c60b0
                    try clear c60b1
                    try clear c60b2
                    try clear c61
                    try clear c61b0
                    try clear c61b1
                    try clear c61b2
                    try clear c62
                    try clear c62b0
                    try clear c62b1
                    try clear c62b2
                    try clear c63
                    try clear c63b0
                    try clear c63b1
                    try clear c63b2
                    try clear c64
                    try clear c64b0
                    try clear c64b1
                    try clear c64b2
                    try clear p64
                    try clear c65
                    try clear c65b0
                    try clear c65b1
                    try clear c65b2
                    try clear c66
                    try clear c66b0
                    try clear c66b1
                    try clear c66b2
                    try clear c67
                    try clear c67b0
                    try clear c67b1
                    try clear c67b2
                    try clear c77
                    try clear c77b0
                    try clear c77b1
                    try clear c77b2
                    try clear hcz11_0
                    try clear hcz11_1
                    try clear hcz11_2
                    try clear hcz11_3
                    try clear hcz15_0
                    try clear hcz15_1
                    try clear hcz15_2
                    try clear hcz15_3
                    try clear hcz17_0
                    try clear hcz17_1
                    try clear hcz17_2
                    try clear hcz17_3
                    try clear hfz11_0
                    try clear hfz11_1
                    try clear hfz11_2
                    try clear hfz11_3
                    try clear hfz15_0
                    try clear hfz15_1
                    try clear hfz15_2
                    try clear hfz15_3
                    try clear hfz17_0
                    try clear hfz17_1
                    try clear hfz17_2
                    try clear hfz17_3
                    try clear p2
                    try clear p6
                    try clear p64
                    obtain ⟨kq, x193_72, rfl, HA, HJ72, HO_327002, HO_327003, BK326, HB⟩ := hcut
                    cases kq with
                    | zero => exact absurd HA.out (by simp [laws_FnTopOfAll.j6])
                    | succ kj72 =>
                     have H := HA.out
                     clear HA
                     simp only [laws_FnTopOfAll.j6] at H
                     by_cases c78 : x193_72 = true
                     ·subst c78
                      rw [if_pos rfl] at H
                      have H1 := H
                      clear H
                      have H := H1
                      clear H1
                      obtain rfl := Option.some.inj H
                      go_wp2
                      go_ret
                      exact ⟨Qe0_, Qg_ GE326.out⟩
                     ·replace c78 := Bool.eq_false_iff.mpr c78
                      subst c78
                      rw [if_neg (show ¬ (false = true) by decide)] at H
                      have H1 := H
                      clear H
                      have H := H1
                      clear H1
                      replace H := Option.bind_eq_some_iff.mp H
                      obtain ⟨⟨t352, t353⟩, A790, H⟩ := H
                      try dsimp only at H
                      have A79 := Aside0.mk A790
                      clear A790
                      have HC80 := Aside0.mk H
                      clear H
                      go_upto_region 35 with (first | ((with_reducible refine gate_callee (f := 16) rfl ?_); refine goesL_ (some 197) rfl rfl Tryz.func16 Qi0_ rfl #[.int .i64 a1, .string t329] rfl Qb0_ ?_; (with_reducible refine (spec_AddCheck.calls kj72 a1 t329 t352 t353 _ A79.out).mono ?_); rintro e w81 ⟨rfl, hb⟩; refine ⟨_, rfl, ?_⟩; have n0_ := Aside0.mk (Kd.R_below (Qr_ HO_327002.out) hb); have n1_ := Aside0.mk (Kd.R_below (Qr_ HO_327003.out) hb); have n2_ := Aside0.mk (blk_below (g := gb326) (o := .cells #[.int .i64 t317, .int .i64 t318, .slice Ao12 t319.length co12, .slice Ao13 t322.length co13] 25 (0, 0)) (Qk_ BK326.out) hb); have n3_ := Aside0.mk (below_step (Qg_ GE326.out) hb); clear HO_327002; clear HO_327003; clear BK326; clear HB; have HO_327002 := n0_; have HO_327003 := n1_; have BK326 := n2_; have HB := n3_; clear n0_ n1_ n2_ n3_; (try clear hb); (try clear hb2); (try clear hk); (try clear hi)))
                      (try simp only [Act.put, List.setIfInBounds_toArray, List.set_cons_zero, List.set_cons_succ])
                      go_cut [216] (fun v216 wc => ∃ (kq : Nat) (x216_79 : Bool), v216 = .bool x216_79 ∧ Aside0 (laws_FnTopOfAll.j7 kq a1 a2 t329 (wrap64 ((t329.size : Int) / 4)) x21_39 x22_39 t346 t347 t348 t349 x216_79 = some r) ∧ Aside0 (kq ≤ kj72) ∧ Aside0 (Kd.R Kd.string 9 wc w.heap.size (fun k_ => some k_ ≠ ((.slice Ao13 t322.length co13) : Value).ownBlock) (.slice Ao12 t319.length co12) t319) ∧ Aside0 (Kd.R Kd.string 9 wc w.heap.size (fun k_ => some k_ ≠ ((.slice Ao12 t319.length co12) : Value).ownBlock) (.slice Ao13 t322.length co13) t322) ∧ Aside0 (wc.heap[gb326]? = some (.cells #[.int .i64 t317, .int .i64 t318, (.slice Ao12 t319.length co12), (.slice Ao13 t322.length co13)] 25 (0, 0))) ∧ Aside0 (Below w.heap.size w wc))
                      case first =>
                       have H := HC80.out
                       clear HC80
                       by_cases c82 : (t349 != t353) = true
                       ·rw [if_pos c82] at H
                        have c82b0 : (t349 != t353) = true := c82
                        (try (have c82b1 : decide (t349 = t353) = false := by simpa using c82))
                        (try (have c82b2 : (t349 == t353) = false := by simpa using c82))
                        (try (have c82b3 : ¬ (t349 = t353) := by simpa using c82))
                        clear c82
                        (first | rw [c82b0] | (simp only [i64_w, i32_w]; rw [c82b0]) | skip)
                        have H' := Aside0.mk H
                        clear H
                        go_wp2
                        go_meet
                        case rel => exact ⟨_, (true), Qc0_, H', ⟨Qk1_⟩, ⟨Qr_ HO_327002.out⟩, ⟨Qr_ HO_327003.out⟩, ⟨Qk_ BK326.out⟩, ⟨Qg_ GE326.out⟩⟩
                       ·rw [if_neg c82] at H
                        have c82b0 : (t349 != t353) = false := by simpa using c82
                        (try (have c82b1 : decide (t349 = t353) = true := by simpa using c82))
                        (try (have c82b2 : (t349 == t353) = true := by simpa using c82))
                        clear c82
                        (first | rw [c82b0] | (simp only [i64_w, i32_w]; rw [c82b0]) | skip)
                        by_cases c83 : t348.toList = t352.toList
                        ·rw [if_pos c83] at H
                         have c83b0 := beq_iff_eq.mpr c83
                         have c83b1 := bne_eq_false_iff_eq.mpr c83
                         clear c83
                         by_cases c84 : t349 = true
                         ·subst c84
                          rw [if_pos rfl] at H
                          have H1 := H
                          clear H
                          have H := H1
                          clear H1
                          replace H := Option.bind_eq_some_iff.mp H
                          obtain ⟨t354, A850, H⟩ := H
                          try dsimp only at H
                          have A85 := Aside0.mk A850
                          clear A850
                          have H' := Aside0.mk H
                          clear H
                          go_wp2_with (first | (go_at_call 17; (with_reducible refine (impl_HasCheck.calls kj72 a1 t348 t354 _ A85.out).mono ?_); rintro e w86 ⟨rfl, hb⟩; have n0_ := Aside0.mk (Kd.R_below (Qr_ HO_327002.out) hb); have n1_ := Aside0.mk (Kd.R_below (Qr_ HO_327003.out) hb); have n2_ := Aside0.mk (blk_below (g := gb326) (o := .cells #[.int .i64 t317, .int .i64 t318, .slice Ao12 t319.length co12, .slice Ao13 t322.length co13] 25 (0, 0)) (Qk_ BK326.out) hb); have n3_ := Aside0.mk (below_step (Qg_ GE326.out) hb); clear HO_327002; clear HO_327003; clear BK326; clear HB; have HO_327002 := n0_; have HO_327003 := n1_; have BK326 := n2_; have HB := n3_; clear n0_ n1_ n2_ n3_; (try clear hb); (try clear hb2); (try clear hk); (try clear hi)))
                          go_meet
                          case rel => exact ⟨_, (!t354), Qc0_, H', ⟨Qk1_⟩, ⟨Qr_ HO_327002.out⟩, ⟨Qr_ HO_327003.out⟩, ⟨Qk_ BK326.out⟩, ⟨Qg_ GE326.out⟩⟩
                         ·replace c84 := Bool.eq_false_iff.mpr c84
                          subst c84
                          rw [if_neg (show ¬ (false = true) by decide)] at H
                          have H1 := H
                          clear H
                          have H := H1
                          clear H1
                          have H' := Aside0.mk H
                          clear H
                          go_wp2
                          go_meet
                          case rel => exact ⟨_, (false), Qc0_, H', ⟨Qk1_⟩, ⟨Qr_ HO_327002.out⟩, ⟨Qr_ HO_327003.out⟩, ⟨Qk_ BK326.out⟩, ⟨Qg_ GE326.out⟩⟩
                        ·rw [if_neg c83] at H
                         have c83b0 := beq_eq_false_iff_ne.mpr c83
                         have c83b1 := bne_iff_ne.mpr c83
                         have H' := Aside0.mk H
                         clear H
                         go_wp2
                         go_meet
                         case rel => exact ⟨_, (true), Qc0_, H', ⟨Qk1_⟩, ⟨Qr_ HO_327002.out⟩, ⟨Qr_ HO_327003.out⟩, ⟨Qk_ BK326.out⟩, ⟨Qg_ GE326.out⟩⟩
                      case rest => as_aux_lemma =>
                       clear HC80
                       try clear c1
                       try clear c2
                       try clear p2
                       try clear c3
                       try clear c4
                       try clear c5
                       try clear c6
                       try clear p6
                       try clear c7
                       try clear c8
                       try clear c9
                       try clear c10
                       try clear c11
                       try clear c12
                       try clear c13
                       try clear c14
                       try clear c15
                       try clear c16
                       try clear c19
                       try clear c20
                       try clear c20b0
                       try clear c20b1
                       try clear c20b2
                       try clear c21
                       try clear c21b0
                       try clear c21b1
                       try clear c22
                       try clear c24
                       try clear c24b0
                       try clear c24b1
                       try clear c24b2
                       try clear c28
                       try clear c29
                       try clear c31
                       try clear c31b0
                       try clear c31b1
                       try clear c33
                       try clear c33b0
                       try clear c33b1
                       try clear c33b2
                       try clear c34
                       try clear c34b0
                       try clear c34b1
                       try clear c34b2
                       try clear c35
                       try clear c35b0
                       try clear c35b1
                       try clear c35b2
                       try clear c36
                       try clear c36b0
                       try clear c36b1
                       try clear c36b2
                       try clear c37
                       try clear c37b0
                       try clear c37b1
                       try clear c37b2
                       try clear c38
                       try clear c38b0
                       try clear c38b1
                       try clear c38b2
                       try clear c39
                       try clear c39b0
                       try clear c39b1
                       try clear c39b2
                       try clear c42
                       try clear c42b0
                       try clear c48
                       try clear c48b0
                       try clear c48b1
                       try clear c48b2
                       try clear c49
                       try clear c50
                       try clear c54
                       try clear c55
                       try clear c57
                       try clear c57b0
                       try clear c57b1
                       try clear c57b2
                       try clear c58
                       try clear c58b0
                       try clear c58b1
                       try clear c58b2
                       try clear c60
                       try clear c60b0
                       try clear c60b1
                       try clear c60b2
                       try clear c61
                       try clear c61b0
                       try clear c61b1
                       try clear c61b2
                       try clear c62
                       try clear c62b0
                       try clear c62b1
                       try clear c62b2
                       try clear c63
                       try clear c63b0
                       try clear c63b1
                       try clear c63b2
                       try clear c64
                       try clear c64b0
                       try clear c64b1
                       try clear c64b2
                       try clear p64
                       try clear c65
                       try clear c65b0
                       try clear c65b1
                       try clear c65b2
                       try clear c66
                       try clear c66b0
                       try clear c66b1
                       try clear c66b2
                       try clear c67
                       try clear c67b0
                       try clear c67b1
                       try clear c67b2
                       try clear c77
                       try clear c77b0
                       try clear c77b1
                       try clear c77b2
                       try clear c78
                       try clear c82
                       try clear c82b0
                       try clear c82b1
                       try clear c82b2
                       try clear c83
                       try clear c83b0
                       try clear c83b1
                       try clear c84
                       try clear hcz11_0
                       try clear hcz11_1
                       try clear hcz11_2
                       try clear hcz11_3
                       try clear hcz15_0
                       try clear hcz15_1
                       try clear hcz15_2
                       try clear hcz15_3
                       try clear hcz17_0
                       try clear hcz17_1
                       try clear hcz17_2
                       try clear hcz17_3
                       try clear hfz11_0
                       try clear hfz11_1
                       try clear hfz11_2
                       try clear hfz11_3
                       try clear hfz15_0
                       try clear hfz15_1
                       try clear hfz15_2
                       try clear hfz15_3
                       try clear hfz17_0
                       try clear hfz17_1
                       try clear hfz17_2
                       try clear hfz17_3
                       try clear p2
                       try clear p6
                       try clear p64
                       obtain ⟨kq, x216_79, rfl, HA, HJ79, HO_327002, HO_327003, BK326, HB⟩ := hcut
                       cases kq with
                       | zero => exact absurd HA.out (by simp [laws_FnTopOfAll.j7])
                       | succ kj79 =>
                        have H := HA.out
                        clear HA
                        simp only [laws_FnTopOfAll.j7] at H
                        by_cases c87 : x216_79 = true
                        ·subst c87
                         rw [if_pos rfl] at H
                         have H1 := H
                         clear H
                         have H := H1
                         clear H1
                         obtain rfl := Option.some.inj H
                         go_wp2
                         go_ret
                         exact ⟨Qe0_, Qg_ GE326.out⟩
                        ·replace c87 := Bool.eq_false_iff.mpr c87
                         subst c87
                         rw [if_neg (show ¬ (false = true) by decide)] at H
                         have H1 := H
                         clear H
                         have H := H1
                         clear H1
                         have HC88 := Aside0.mk H
                         clear H
                         go_upto_region 37 with (fail)
                         go_cut [221] (fun v221 wc => ∃ (kq : Nat) (x221_87 : Bool), v221 = .bool x221_87 ∧ Aside0 (laws_FnTopOfAll.j8 kq a1 a2 t329 x21_39 x22_39 t346 t348 t349 x221_87 = some r) ∧ Aside0 (kq ≤ kj79) ∧ Aside0 (Kd.R Kd.string 9 wc w.heap.size (fun k_ => some k_ ≠ ((.slice Ao13 t322.length co13) : Value).ownBlock) (.slice Ao12 t319.length co12) t319) ∧ Aside0 (Kd.R Kd.string 9 wc w.heap.size (fun k_ => some k_ ≠ ((.slice Ao12 t319.length co12) : Value).ownBlock) (.slice Ao13 t322.length co13) t322) ∧ Aside0 (wc.heap[gb326]? = some (.cells #[.int .i64 t317, .int .i64 t318, (.slice Ao12 t319.length co12), (.slice Ao13 t322.length co13)] 25 (0, 0))) ∧ Aside0 (Below w.heap.size w wc))
                         case first =>
                          have H := HC88.out
                          clear HC88
                          by_cases c89 : (wrap64 ((t329.size : Int) / 4)) > 0
                          ·rw [if_pos c89] at H
                           have c89b0 := decide_eq_true c89
                           clear c89
                           (first | rw [c89b0] | (simp only [i64_w, i32_w]; rw [c89b0]) | skip)
                           have H' := Aside0.mk H
                           clear H
                           go_wp2
                           go_meet
                           case rel => exact ⟨_, (t347), Qc0_, H', ⟨by have := HJ7.out; have := HJ25.out; have := HJ29.out; have := HJ39.out; have := HJ72.out; have := HJ79.out; first | omega | exact Nat.le_refl _⟩, ⟨Qr_ HO_327002.out⟩, ⟨Qr_ HO_327003.out⟩, ⟨Qk_ BK326.out⟩, ⟨Qg_ GE326.out⟩⟩
                          ·rw [if_neg c89] at H
                           have c89b0 := decide_eq_false c89
                           clear c89
                           (first | rw [c89b0] | (simp only [i64_w, i32_w]; rw [c89b0]) | skip)
                           have H' := Aside0.mk H
                           clear H
                           go_wp2
                           go_meet
                           case rel => exact ⟨_, (false), Qc0_, H', ⟨by have := HJ7.out; have := HJ25.out; have := HJ29.out; have := HJ39.out; have := HJ72.out; have := HJ79.out; first | omega | exact Nat.le_refl _⟩, ⟨Qr_ HO_327002.out⟩, ⟨Qr_ HO_327003.out⟩, ⟨Qk_ BK326.out⟩, ⟨Qg_ GE326.out⟩⟩
                         case rest => as_aux_lemma =>
                          clear HC88
                          try clear c1
                          try clear c2
                          try clear p2
                          try clear c3
                          try clear c4
                          try clear c5
                          try clear c6
                          try clear p6
                          try clear c7
                          try clear c8
                          try clear c9
                          try clear c10
                          try clear c11
                          try clear c12
                          try clear c13
                          try clear c14
                          try clear c15
                          try clear c16
                          try clear c19
                          try clear c20
                          try clear c20b0
                          try clear c20b1
                          try clear c20b2
                          try clear c21
                          try clear c21b0
                          try clear c21b1
                          try clear c22
                          try clear c24
                          try clear c24b0
                          try clear c24b1
                          try clear c24b2
                          try clear c28
                          try clear c29
                          try clear c31
                          try clear c31b0
                          try clear c31b1
                          try clear c33
                          try clear c33b0
                          try clear c33b1
                          try clear c33b2
                          try clear c34
                          try clear c34b0
                          try clear c34b1
                          try clear c34b2
                          try clear c35
                          try clear c35b0
                          try clear c35b1
                          try clear c35b2
                          try clear c36
                          try clear c36b0
                          try clear c36b1
                          try clear c36b2
                          try clear c37
                          try clear c37b0
                          try clear c37b1
                          try clear c37b2
                          try clear c38
                          try clear c38b0
                          try clear c38b1
                          try clear c38b2
                          try clear c39
                          try clear c39b0
                          try clear c39b1
                          try clear c39b2
                          try clear c42
                          try clear c42b0
                          try clear c48
                          try clear c48b0
                          try clear c48b1
                          try clear c48b2
                          try clear c49
                          try clear c50
                          try clear c54
                          try clear c55
                          try clear c57
                          try clear c57b0
                          try clear c57b1
                          try clear c57b2
                          try clear c58
                          try clear c58b0
                          try clear c58b1
                          try clear c58b2
                          try clear c60
                          try clear c60b0
                          try clear c60b1
                          try clear c60b2
                          try clear c61
                          try clear c61b0
                          try clear c61b1
                          try clear c61b2
                          try clear c62
                          try clear c62b0
                          try clear c62b1
                          try clear c62b2
                          try clear c63
                          try clear c63b0
                          try clear c63b1
                          try clear c63b2
                          try clear c64
                          try clear c64b0
                          try clear c64b1
                          try clear c64b2
                          try clear p64
                          try clear c65
                          try clear c65b0
                          try clear c65b1
                          try clear c65b2
                          try clear c66
                          try clear c66b0
                          try clear c66b1
                          try clear c66b2
                          try clear c67
                          try clear c67b0
                          try clear c67b1
                          try clear c67b2
                          try clear c77
                          try clear c77b0
                          try clear c77b1
                          try clear c77b2
                          try clear c78
                          try clear c82
                          try clear c82b0
                          try clear c82b1
                          try clear c82b2
                          try clear c83
                          try clear c83b0
                          try clear c83b1
                          try clear c84
                          try clear c87
                          try clear c89
                          try clear c89b0
                          try clear hcz11_0
                          try clear hcz11_1
                          try clear hcz11_2
                          try clear hcz11_3
                          try clear hcz15_0
                          try clear hcz15_1
                          try clear hcz15_2
                          try clear hcz15_3
                          try clear hcz17_0
                          try clear hcz17_1
                          try clear hcz17_2
                          try clear hcz17_3
                          try clear hfz11_0
                          try clear hfz11_1
                          try clear hfz11_2
                          try clear hfz11_3
                          try clear hfz15_0
                          try clear hfz15_1
                          try clear hfz15_2
                          try clear hfz15_3
                          try clear hfz17_0
                          try clear hfz17_1
                          try clear hfz17_2
                          try clear hfz17_3
                          try clear p2
                          try clear p6
                          try clear p64
                          obtain ⟨kq, x221_87, rfl, HA, HJ87, HO_327002, HO_327003, BK326, HB⟩ := hcut
                          cases kq with
                          | zero => exact absurd HA.out (by simp [laws_FnTopOfAll.j8])
                          | succ kj87 =>
                           have H := HA.out
                           clear HA
                           simp only [laws_FnTopOfAll.j8] at H
                           have HC90 := Aside0.mk H
                           clear H
                           go_upto_if 221 with (fail)
                           go_cut [21, 22] (fun v21 v22 wc => ∃ (kq : Nat) (x21_89 : ByteArray) (x22_89 : ByteArray), v21 = .string x21_89 ∧ v22 = .string x22_89 ∧ Aside0 (laws_FnTopOfAll.j9 kq a1 x21_89 x22_89 t348 t349 = some r) ∧ Aside0 (kq ≤ kj87) ∧ Aside0 (Kd.R Kd.string 9 wc w.heap.size (fun k_ => some k_ ≠ ((.slice Ao13 t322.length co13) : Value).ownBlock) (.slice Ao12 t319.length co12) t319) ∧ Aside0 (Kd.R Kd.string 9 wc w.heap.size (fun k_ => some k_ ≠ ((.slice Ao12 t319.length co12) : Value).ownBlock) (.slice Ao13 t322.length co13) t322) ∧ Aside0 (wc.heap[gb326]? = some (.cells #[.int .i64 t317, .int .i64 t318, (.slice Ao12 t319.length co12), (.slice Ao13 t322.length co13)] 25 (0, 0))) ∧ Aside0 (Below w.heap.size w wc))
                           case first =>
                            have H := HC90.out
                            clear HC90
                            by_cases c91 : x221_87 = true
                            ·subst c91
                             rw [if_pos rfl] at H
                             have H1 := H
                             clear H
                             have H := H1
                             clear H1
                             by_cases c92 : (IntKind.u64.wrap ((t346.size : Int))) = 0
                             ·rw [if_pos c92] at H
                              exact absurd H (by simp)
                             ·rw [if_neg c92] at H
                              have c92b0 := beq_eq_false_iff_ne.mpr c92
                              have c92b1 := bne_iff_ne.mpr c92
                              (first | rw [c92b0] | (simp only [i64_w, i32_w]; rw [c92b0]) | skip)
                              replace H := Option.bind_eq_some_iff.mp H
                              obtain ⟨t355, A930, H⟩ := H
                              try dsimp only at H
                              have A93 := Aside0.mk A930
                              clear A930
                              by_cases c94 : 20 + t355.size ≤ 9223372036854775807
                              ·rw [if_pos c94] at H
                               have c94b0 := eq_true c94
                               have c94b1 := decide_eq_true c94
                               try have c94b2 := eq_false (Nat.not_lt.2 c94)
                               by_cases c95 : ((⟨#[114, 101, 112, 101, 97, 116, 32, 122, 32, 120, 32, 51, 10, 102, 108, 105, 112, 32, 122, 32]⟩ : ByteArray) ++ t355).size + 19 ≤ 9223372036854775807
                               ·rw [if_pos c95] at H
                                have c95b0 := eq_true c95
                                have c95b1 := decide_eq_true c95
                                try have c95b2 := eq_false (Nat.not_lt.2 c95)
                                try have c95b4 : (9223372036854775807 < (20 + t355.size) + 19) = False := eq_false (Nat.not_lt.2 (by have q_ := c95; simp only [ByteArray.size_append] at q_; exact q_))
                                by_cases c96 : x22_39.size + (((⟨#[114, 101, 112, 101, 97, 116, 32, 122, 32, 120, 32, 51, 10, 102, 108, 105, 112, 32, 122, 32]⟩ : ByteArray) ++ t355) ++ (⟨#[10, 118, 111, 116, 101, 32, 122, 32, 122, 32, 51, 10, 115, 104, 111, 119, 32, 122, 10]⟩ : ByteArray)).size ≤ 9223372036854775807
                                ·rw [if_pos c96] at H
                                 have c96b0 := eq_true c96
                                 have c96b1 := decide_eq_true c96
                                 try have c96b2 := eq_false (Nat.not_lt.2 c96)
                                 try have c96b4 : (9223372036854775807 < x22_39.size + ((20 + t355.size) + 19)) = False := eq_false (Nat.not_lt.2 (by have q_ := c96; simp only [ByteArray.size_append] at q_; exact q_))
                                 by_cases c97 : 9 + t329.size ≤ 9223372036854775807
                                 ·rw [if_pos c97] at H
                                  have c97b0 := eq_true c97
                                  have c97b1 := decide_eq_true c97
                                  try have c97b2 := eq_false (Nat.not_lt.2 c97)
                                  by_cases c98 : ((⟨#[111, 107, 10, 111, 107, 10, 111, 107, 10]⟩ : ByteArray) ++ t329).size + 1 ≤ 9223372036854775807
                                  ·rw [if_pos c98] at H
                                   have c98b0 := eq_true c98
                                   have c98b1 := decide_eq_true c98
                                   try have c98b2 := eq_false (Nat.not_lt.2 c98)
                                   try have c98b4 : (9223372036854775807 < (9 + t329.size) + 1) = False := eq_false (Nat.not_lt.2 (by have q_ := c98; simp only [ByteArray.size_append] at q_; exact q_))
                                   by_cases c99 : x21_39.size + (((⟨#[111, 107, 10, 111, 107, 10, 111, 107, 10]⟩ : ByteArray) ++ t329) ++ (⟨#[10]⟩ : ByteArray)).size ≤ 9223372036854775807
                                   ·rw [if_pos c99] at H
                                    have c99b0 := eq_true c99
                                    have c99b1 := decide_eq_true c99
                                    try have c99b2 := eq_false (Nat.not_lt.2 c99)
                                    try have c99b4 : (9223372036854775807 < x21_39.size + ((9 + t329.size) + 1)) = False := eq_false (Nat.not_lt.2 (by have q_ := c99; simp only [ByteArray.size_append] at q_; exact q_))
                                    have H' := Aside0.mk H
                                    clear H
                                    go_wp2_with (first | ((with_reducible refine gate_callee (f := 9) rfl ?_); refine goesL_ (some 231) rfl rfl Tryz.func9 Qi0_ rfl #[.int .i64 (wrap64 (Int.tmod (IntKind.u64.wrap (a2)) (IntKind.u64.wrap ((t346.size : Int)))))] rfl Qb0_ ?_; (with_reducible refine (impl_Decimal.calls (wrap64 (Int.tmod (IntKind.u64.wrap (a2)) (IntKind.u64.wrap ((t346.size : Int))))) t355 _ ?tb A93.out).mono ?_); (case tb => exact Qg0_); rintro e w100 ⟨rfl, hb⟩; refine ⟨_, rfl, ?_⟩; have n0_ := Aside0.mk (Kd.R_below (Qr_ HO_327002.out) hb); have n1_ := Aside0.mk (Kd.R_below (Qr_ HO_327003.out) hb); have n2_ := Aside0.mk (blk_below (g := gb326) (o := .cells #[.int .i64 t317, .int .i64 t318, .slice Ao12 t319.length co12, .slice Ao13 t322.length co13] 25 (0, 0)) (Qk_ BK326.out) hb); have n3_ := Aside0.mk (below_step (Qg_ GE326.out) hb); clear HO_327002; clear HO_327003; clear BK326; clear HB; have HO_327002 := n0_; have HO_327003 := n1_; have BK326 := n2_; have HB := n3_; clear n0_ n1_ n2_ n3_; (try clear hb); (try clear hb2); (try clear hk); (try clear hi)))
                                    go_meet
                                    case rel => exact ⟨_, (x21_39 ++ (((⟨#[111, 107, 10, 111, 107, 10, 111, 107, 10]⟩ : ByteArray) ++ t329) ++ (⟨#[10]⟩ : ByteArray))), (x22_39 ++ (((⟨#[114, 101, 112, 101, 97, 116, 32, 122, 32, 120, 32, 51, 10, 102, 108, 105, 112, 32, 122, 32]⟩ : ByteArray) ++ t355) ++ (⟨#[10, 118, 111, 116, 101, 32, 122, 32, 122, 32, 51, 10, 115, 104, 111, 119, 32, 122, 10]⟩ : ByteArray))), Qc1_, Qc0_, H', ⟨by have := HJ7.out; have := HJ25.out; have := HJ29.out; have := HJ39.out; have := HJ72.out; have := HJ79.out; have := HJ87.out; first | omega | exact Nat.le_refl _⟩, ⟨Qr_ HO_327002.out⟩, ⟨Qr_ HO_327003.out⟩, ⟨Qk_ BK326.out⟩, ⟨Qg_ GE326.out⟩⟩
                                   ·rw [if_neg c99] at H
                                    exact absurd H (by simp)
                                  ·rw [if_neg c98] at H
                                   exact absurd H (by simp)
                                 ·rw [if_neg c97] at H
                                  exact absurd H (by simp)
                                ·rw [if_neg c96] at H
                                 exact absurd H (by simp)
                               ·rw [if_neg c95] at H
                                exact absurd H (by simp)
                              ·rw [if_neg c94] at H
                               exact absurd H (by simp)
                            ·replace c91 := Bool.eq_false_iff.mpr c91
                             subst c91
                             rw [if_neg (show ¬ (false = true) by decide)] at H
                             have H1 := H
                             clear H
                             have H := H1
                             clear H1
                             have H' := Aside0.mk H
                             clear H
                             go_wp2
                             go_meet
                             case rel => exact ⟨_, (x21_39), (x22_39), Qc0_, Qc0_, H', ⟨by have := HJ7.out; have := HJ25.out; have := HJ29.out; have := HJ39.out; have := HJ72.out; have := HJ79.out; have := HJ87.out; first | omega | exact Nat.le_refl _⟩, ⟨Qr_ HO_327002.out⟩, ⟨Qr_ HO_327003.out⟩, ⟨Qk_ BK326.out⟩, ⟨Qg_ GE326.out⟩⟩
                           case rest => as_aux_lemma =>
                            clear HC90
                            try clear c1
                            try clear c2
                            try clear p2
                            try clear c3
                            try clear c4
                            try clear c5
                            try clear c6
                            try clear p6
                            try clear c7
                            try clear c8
                            try clear c9
                            try clear c10
                            try clear c11
                            try clear c12
                            try clear c13
                            try clear c14
                            try clear c15
                            try clear c16
                            try clear c19
                            try clear c20
                            try clear c20b0
                            try clear c20b1
                            try clear c20b2
                            try clear c21
                            try clear c21b0
                            try clear c21b1
                            try clear c22
                            try clear c24
                            try clear c24b0
                            try clear c24b1
                            try clear c24b2
                            try clear c28
                            try clear c29
                            try clear c31
                            try clear c31b0
                            try clear c31b1
                            try clear c33
                            try clear c33b0
                            try clear c33b1
                            try clear c33b2
                            try clear c34
                            try clear c34b0
                            try clear c34b1
                            try clear c34b2
                            try clear c35
                            try clear c35b0
                            try clear c35b1
                            try clear c35b2
                            try clear c36
                            try clear c36b0
                            try clear c36b1
                            try clear c36b2
                            try clear c37
                            try clear c37b0
                            try clear c37b1
                            try clear c37b2
                            try clear c38
                            try clear c38b0
                            try clear c38b1
                            try clear c38b2
                            try clear c39
                            try clear c39b0
                            try clear c39b1
                            try clear c39b2
                            try clear c42
                            try clear c42b0
                            try clear c48
                            try clear c48b0
                            try clear c48b1
                            try clear c48b2
                            try clear c49
                            try clear c50
                            try clear c54
                            try clear c55
                            try clear c57
                            try clear c57b0
                            try clear c57b1
                            try clear c57b2
                            try clear c58
                            try clear c58b0
                            try clear c58b1
                            try clear c58b2
                            try clear c60
                            try clear c60b0
                            try clear c60b1
                            try clear c60b2
                            try clear c61
                            try clear c61b0
                            try clear c61b1
                            try clear c61b2
                            try clear c62
                            try clear c62b0
                            try clear c62b1
                            try clear c62b2
                            try clear c63
                            try clear c63b0
                            try clear c63b1
                            try clear c63b2
                            try clear c64
                            try clear c64b0
                            try clear c64b1
                            try clear c64b2
                            try clear p64
                            try clear c65
                            try clear c65b0
                            try clear c65b1
                            try clear c65b2
                            try clear c66
                            try clear c66b0
                            try clear c66b1
                            try clear c66b2
                            try clear c67
                            try clear c67b0
                            try clear c67b1
                            try clear c67b2
                            try clear c77
                            try clear c77b0
                            try clear c77b1
                            try clear c77b2
                            try clear c78
                            try clear c82
                            try clear c82b0
                            try clear c82b1
                            try clear c82b2
                            try clear c83
                            try clear c83b0
                            try clear c83b1
                            try clear c84
                            try clear c87
                            try clear c89
                            try clear c89b0
                            try clear c91
                            try clear c92
                            try clear c92b0
                            try clear c92b1
                            try clear c94
                            try clear c94b0
                            try clear c94b1
                            try clear c94b2
                            try clear c95
                            try clear c95b0
                            try clear c95b1
                            try clear c95b2
                            try clear c96
                            try clear c96b0
                            try clear c96b1
                            try clear c96b2
                            try clear c97
                            try clear c97b0
                            try clear c97b1
                            try clear c97b2
                            try clear c98
                            try clear c98b0
                            try clear c98b1
                            try clear c98b2
                            try clear c99
                            try clear c99b0
                            try clear c99b1
                            try clear c99b2
                            try clear hcz11_0
                            try clear hcz11_1
                            try clear hcz11_2
                            try clear hcz11_3
                            try clear hcz15_0
                            try clear hcz15_1
                            try clear hcz15_2
                            try clear hcz15_3
                            try clear hcz17_0
                            try clear hcz17_1
                            try clear hcz17_2
                            try clear hcz17_3
                            try clear hfz11_0
                            try clear hfz11_1
                            try clear hfz11_2
                            try clear hfz11_3
                            try clear hfz15_0
                            try clear hfz15_1
                            try clear hfz15_2
                            try clear hfz15_3
                            try clear hfz17_0
                            try clear hfz17_1
                            try clear hfz17_2
                            try clear hfz17_3
                            try clear p2
                            try clear p6
                            try clear p64
                            obtain ⟨kq, x21_89, x22_89, rfl, rfl, HA, HJ89, HO_327002, HO_327003, BK326, HB⟩ := hcut
                            cases kq with
                            | zero => exact absurd HA.out (by simp [laws_FnTopOfAll.j9])
                            | succ kj89 =>
                             have H := HA.out
                             clear HA
                             simp only [laws_FnTopOfAll.j9] at H
                             have HC101 := Aside0.mk H
                             clear H
                             go_upto_if 240 with (fail)
                             go_cut [21, 22] (fun v21 v22 wc => ∃ (kq : Nat) (x21_100 : ByteArray) (x22_100 : ByteArray), v21 = .string x21_100 ∧ v22 = .string x22_100 ∧ Aside0 (laws_FnTopOfAll.j10 kq x21_100 x22_100 = some r) ∧ Aside0 (kq ≤ kj89) ∧ Aside0 (Kd.R Kd.string 9 wc w.heap.size (fun k_ => some k_ ≠ ((.slice Ao13 t322.length co13) : Value).ownBlock) (.slice Ao12 t319.length co12) t319) ∧ Aside0 (Kd.R Kd.string 9 wc w.heap.size (fun k_ => some k_ ≠ ((.slice Ao12 t319.length co12) : Value).ownBlock) (.slice Ao13 t322.length co13) t322) ∧ Aside0 (wc.heap[gb326]? = some (.cells #[.int .i64 t317, .int .i64 t318, (.slice Ao12 t319.length co12), (.slice Ao13 t322.length co13)] 25 (0, 0))) ∧ Aside0 (Below w.heap.size w wc))
                             case first =>
                              have H := HC101.out
                              clear HC101
                              by_cases c102 : t349 = true
                              ·subst c102
                               rw [if_pos rfl] at H
                               have H1 := H
                               clear H
                               have H := H1
                               clear H1
                               replace H := Option.bind_eq_some_iff.mp H
                               obtain ⟨t356, A1030, H⟩ := H
                               try dsimp only at H
                               have A103 := Aside0.mk A1030
                               clear A1030
                               by_cases c104 : 10 + t356.size ≤ 9223372036854775807
                               ·rw [if_pos c104] at H
                                have c104b0 := eq_true c104
                                have c104b1 := decide_eq_true c104
                                try have c104b2 := eq_false (Nat.not_lt.2 c104)
                                by_cases c105 : ((⟨#[99, 104, 101, 99, 107, 32, 119, 32, 120, 32]⟩ : ByteArray) ++ t356).size + 10 ≤ 9223372036854775807
                                ·rw [if_pos c105] at H
                                 have c105b0 := eq_true c105
                                 have c105b1 := decide_eq_true c105
                                 try have c105b2 := eq_false (Nat.not_lt.2 c105)
                                 try have c105b4 : (9223372036854775807 < (10 + t356.size) + 10) = False := eq_false (Nat.not_lt.2 (by have q_ := c105; simp only [ByteArray.size_append] at q_; exact q_))
                                 replace H := Option.bind_eq_some_iff.mp H
                                 obtain ⟨t357, A1060, H⟩ := H
                                 try dsimp only at H
                                 have A106 := Aside0.mk A1060
                                 clear A1060
                                 by_cases c107 : (((⟨#[99, 104, 101, 99, 107, 32, 119, 32, 120, 32]⟩ : ByteArray) ++ t356) ++ (⟨#[10, 118, 101, 114, 105, 102, 121, 32, 119, 32]⟩ : ByteArray)).size + t357.size ≤ 9223372036854775807
                                 ·rw [if_pos c107] at H
                                  have c107b0 := eq_true c107
                                  have c107b1 := decide_eq_true c107
                                  try have c107b2 := eq_false (Nat.not_lt.2 c107)
                                  try have c107b4 : (9223372036854775807 < ((10 + t356.size) + 10) + t357.size) = False := eq_false (Nat.not_lt.2 (by have q_ := c107; simp only [ByteArray.size_append] at q_; exact q_))
                                  by_cases c108 : ((((⟨#[99, 104, 101, 99, 107, 32, 119, 32, 120, 32]⟩ : ByteArray) ++ t356) ++ (⟨#[10, 118, 101, 114, 105, 102, 121, 32, 119, 32]⟩ : ByteArray)) ++ t357).size + 8 ≤ 9223372036854775807
                                  ·rw [if_pos c108] at H
                                   have c108b0 := eq_true c108
                                   have c108b1 := decide_eq_true c108
                                   try have c108b2 := eq_false (Nat.not_lt.2 c108)
                                   try have c108b4 : (9223372036854775807 < (((10 + t356.size) + 10) + t357.size) + 8) = False := eq_false (Nat.not_lt.2 (by have q_ := c108; simp only [ByteArray.size_append] at q_; exact q_))
                                   by_cases c109 : x22_89.size + (((((⟨#[99, 104, 101, 99, 107, 32, 119, 32, 120, 32]⟩ : ByteArray) ++ t356) ++ (⟨#[10, 118, 101, 114, 105, 102, 121, 32, 119, 32]⟩ : ByteArray)) ++ t357) ++ (⟨#[10, 115, 104, 111, 119, 32, 119, 10]⟩ : ByteArray)).size ≤ 9223372036854775807
                                   ·rw [if_pos c109] at H
                                    have c109b0 := eq_true c109
                                    have c109b1 := decide_eq_true c109
                                    try have c109b2 := eq_false (Nat.not_lt.2 c109)
                                    try have c109b4 : (9223372036854775807 < x22_89.size + ((((10 + t356.size) + 10) + t357.size) + 8)) = False := eq_false (Nat.not_lt.2 (by have q_ := c109; simp only [ByteArray.size_append] at q_; exact q_))
                                    by_cases c110 : 7 + t348.size ≤ 9223372036854775807
                                    ·rw [if_pos c110] at H
                                     have c110b0 := eq_true c110
                                     have c110b1 := decide_eq_true c110
                                     try have c110b2 := eq_false (Nat.not_lt.2 c110)
                                     by_cases c111 : ((⟨#[111, 107, 10, 121, 101, 115, 10]⟩ : ByteArray) ++ t348).size + 1 ≤ 9223372036854775807
                                     ·rw [if_pos c111] at H
                                      have c111b0 := eq_true c111
                                      have c111b1 := decide_eq_true c111
                                      try have c111b2 := eq_false (Nat.not_lt.2 c111)
                                      try have c111b4 : (9223372036854775807 < (7 + t348.size) + 1) = False := eq_false (Nat.not_lt.2 (by have q_ := c111; simp only [ByteArray.size_append] at q_; exact q_))
                                      by_cases c112 : x21_89.size + (((⟨#[111, 107, 10, 121, 101, 115, 10]⟩ : ByteArray) ++ t348) ++ (⟨#[10]⟩ : ByteArray)).size ≤ 9223372036854775807
                                      ·rw [if_pos c112] at H
                                       have c112b0 := eq_true c112
                                       have c112b1 := decide_eq_true c112
                                       try have c112b2 := eq_false (Nat.not_lt.2 c112)
                                       try have c112b4 : (9223372036854775807 < x21_89.size + ((7 + t348.size) + 1)) = False := eq_false (Nat.not_lt.2 (by have q_ := c112; simp only [ByteArray.size_append] at q_; exact q_))
                                       have H' := Aside0.mk H
                                       clear H
                                       go_wp2_with (first | ((with_reducible refine gate_callee (f := 9) rfl ?_); refine goesL_ (some 243) rfl rfl Tryz.func9 Qi0_ rfl #[.int .i64 a1] rfl Qb0_ ?_; (with_reducible refine (impl_Decimal.calls a1 t356 _ ?tb A103.out).mono ?_); (case tb => exact Qg0_); rintro e w113 ⟨rfl, hb⟩; refine ⟨_, rfl, ?_⟩; have n0_ := Aside0.mk (Kd.R_below (Qr_ HO_327002.out) hb); have n1_ := Aside0.mk (Kd.R_below (Qr_ HO_327003.out) hb); have n2_ := Aside0.mk (blk_below (g := gb326) (o := .cells #[.int .i64 t317, .int .i64 t318, .slice Ao12 t319.length co12, .slice Ao13 t322.length co13] 25 (0, 0)) (Qk_ BK326.out) hb); have n3_ := Aside0.mk (below_step (Qg_ GE326.out) hb); clear HO_327002; clear HO_327003; clear BK326; clear HB; have HO_327002 := n0_; have HO_327003 := n1_; have BK326 := n2_; have HB := n3_; clear n0_ n1_ n2_ n3_; (try clear hb); (try clear hb2); (try clear hk); (try clear hi)) | ((with_reducible refine gate_callee (f := 9) rfl ?_); refine goesL_ (some 247) rfl rfl Tryz.func9 Qi0_ rfl #[.int .i64 a1] rfl Qb0_ ?_; (with_reducible refine (impl_Decimal.calls a1 t357 _ ?tb A106.out).mono ?_); (case tb => exact Qg0_); rintro e w114 ⟨rfl, hb⟩; refine ⟨_, rfl, ?_⟩; have n0_ := Aside0.mk (Kd.R_below (Qr_ HO_327002.out) hb); have n1_ := Aside0.mk (Kd.R_below (Qr_ HO_327003.out) hb); have n2_ := Aside0.mk (blk_below (g := gb326) (o := .cells #[.int .i64 t317, .int .i64 t318, .slice Ao12 t319.length co12, .slice Ao13 t322.length co13] 25 (0, 0)) (Qk_ BK326.out) hb); have n3_ := Aside0.mk (below_step (Qg_ GE326.out) hb); clear HO_327002; clear HO_327003; clear BK326; clear HB; have HO_327002 := n0_; have HO_327003 := n1_; have BK326 := n2_; have HB := n3_; clear n0_ n1_ n2_ n3_; (try clear hb); (try clear hb2); (try clear hk); (try clear hi)))
                                       go_meet
                                       case rel => exact ⟨_, (x21_89 ++ (((⟨#[111, 107, 10, 121, 101, 115, 10]⟩ : ByteArray) ++ t348) ++ (⟨#[10]⟩ : ByteArray))), (x22_89 ++ (((((⟨#[99, 104, 101, 99, 107, 32, 119, 32, 120, 32]⟩ : ByteArray) ++ t356) ++ (⟨#[10, 118, 101, 114, 105, 102, 121, 32, 119, 32]⟩ : ByteArray)) ++ t357) ++ (⟨#[10, 115, 104, 111, 119, 32, 119, 10]⟩ : ByteArray))), Qc1_, Qc0_, H', ⟨by have := HJ7.out; have := HJ25.out; have := HJ29.out; have := HJ39.out; have := HJ72.out; have := HJ79.out; have := HJ87.out; have := HJ89.out; first | omega | exact Nat.le_refl _⟩, ⟨Qr_ HO_327002.out⟩, ⟨Qr_ HO_327003.out⟩, ⟨Qk_ BK326.out⟩, ⟨Qg_ GE326.out⟩⟩
                                      ·rw [if_neg c112] at H
                                       exact absurd H (by simp)
                                     ·rw [if_neg c111] at H
                                      exact absurd H (by simp)
                                    ·rw [if_neg c110] at H
                                     exact absurd H (by simp)
                                   ·rw [if_neg c109] at H
                                    exact absurd H (by simp)
                                  ·rw [if_neg c108] at H
                                   exact absurd H (by simp)
                                 ·rw [if_neg c107] at H
                                  exact absurd H (by simp)
                                ·rw [if_neg c105] at H
                                 exact absurd H (by simp)
                               ·rw [if_neg c104] at H
                                exact absurd H (by simp)
                              ·replace c102 := Bool.eq_false_iff.mpr c102
                               subst c102
                               rw [if_neg (show ¬ (false = true) by decide)] at H
                               have H1 := H
                               clear H
                               have H := H1
                               clear H1
                               have H' := Aside0.mk H
                               clear H
                               go_wp2
                               go_meet
                               case rel => exact ⟨_, (x21_89), (x22_89), Qc0_, Qc0_, H', ⟨by have := HJ7.out; have := HJ25.out; have := HJ29.out; have := HJ39.out; have := HJ72.out; have := HJ79.out; have := HJ87.out; have := HJ89.out; first | omega | exact Nat.le_refl _⟩, ⟨Qr_ HO_327002.out⟩, ⟨Qr_ HO_327003.out⟩, ⟨Qk_ BK326.out⟩, ⟨Qg_ GE326.out⟩⟩
                             case rest => as_aux_lemma =>
                              clear HC101
                              try clear c1
                              try clear c2
                              try clear p2
                              try clear c3
                              try clear c4
                              try clear c5
                              try clear c6
                              try clear p6
                              try clear c7
                              try clear c8
                              try clear c9
                              try clear c10
                              try clear c11
                              try clear c12
                              try clear c13
                              try clear c14
                              try clear c15
                              try clear c16
                              try clear c19
                              try clear c20
                              try clear c20b0
                              try clear c20b1
                              try clear c20b2
                              try clear c21
                              try clear c21b0
                              try clear c21b1
                              try clear c22
                              try clear c24
                              try clear c24b0
                              try clear c24b1
                              try clear c24b2
                              try clear c28
                              try clear c29
                              try clear c31
                              try clear c31b0
                              try clear c31b1
                              try clear c33
                              try clear c33b0
                              try clear c33b1
                              try clear c33b2
                              try clear c34
                              try clear c34b0
                              try clear c34b1
                              try clear c34b2
                              try clear c35
                              try clear c35b0
                              try clear c35b1
                              try clear c35b2
                              try clear c36
                              try clear c36b0
                              try clear c36b1
                              try clear c36b2
                              try clear c37
                              try clear c37b0
                              try clear c37b1
                              try clear c37b2
                              try clear c38
                              try clear c38b0
                              try clear c38b1
                              try clear c38b2
                              try clear c39
                              try clear c39b0
                              try clear c39b1
                              try clear c39b2
                              try clear c42
                              try clear c42b0
                              try clear c48
                              try clear c48b0
                              try clear c48b1
                              try clear c48b2
                              try clear c49
                              try clear c50
                              try clear c54
                              try clear c55
                              try clear c57
                              try clear c57b0
                              try clear c57b1
                              try clear c57b2
                              try clear c58
                              try clear c58b0
                              try clear c58b1
                              try clear c58b2
                              try clear c60
                              try clear c60b0
                              try clear c60b1
                              try clear c60b2
                              try clear c61
                              try clear c61b0
                              try clear c61b1
                              try clear c61b2
                              try clear c62
                              try clear c62b0
                              try clear c62b1
                              try clear c62b2
                              try clear c63
                              try clear c63b0
                              try clear c63b1
                              try clear c63b2
                              try clear c64
                              try clear c64b0
                              try clear c64b1
                              try clear c64b2
                              try clear p64
                              try clear c65
                              try clear c65b0
                              try clear c65b1
                              try clear c65b2
                              try clear c66
                              try clear c66b0
                              try clear c66b1
                              try clear c66b2
                              try clear c67
                              try clear c67b0
                              try clear c67b1
                              try clear c67b2
                              try clear c77
                              try clear c77b0
                              try clear c77b1
                              try clear c77b2
                              try clear c78
                              try clear c82
                              try clear c82b0
                              try clear c82b1
                              try clear c82b2
                              try clear c83
                              try clear c83b0
                              try clear c83b1
                              try clear c84
                              try clear c87
                              try clear c89
                              try clear c89b0
                              try clear c91
                              try clear c92
                              try clear c92b0
                              try clear c92b1
                              try clear c94
                              try clear c94b0
                              try clear c94b1
                              try clear c94b2
                              try clear c95
                              try clear c95b0
                              try clear c95b1
                              try clear c95b2
                              try clear c96
                              try clear c96b0
                              try clear c96b1
                              try clear c96b2
                              try clear c97
                              try clear c97b0
                              try clear c97b1
                              try clear c97b2
                              try clear c98
                              try clear c98b0
                              try clear c98b1
                              try clear c98b2
                              try clear c99
                              try clear c99b0
                              try clear c99b1
                              try clear c99b2
                              try clear c102
                              try clear c104
                              try clear c104b0
                              try clear c104b1
                              try clear c104b2
                              try clear c105
                              try clear c105b0
                              try clear c105b1
                              try clear c105b2
                              try clear c107
                              try clear c107b0
                              try clear c107b1
                              try clear c107b2
                              try clear c108
                              try clear c108b0
                              try clear c108b1
                              try clear c108b2
                              try clear c109
                              try clear c109b0
                              try clear c109b1
                              try clear c109b2
                              try clear c110
                              try clear c110b0
                              try clear c110b1
                              try clear c110b2
                              try clear c111
                              try clear c111b0
                              try clear c111b1
                              try clear c111b2
                              try clear c112
                              try clear c112b0
                              try clear c112b1
                              try clear c112b2
                              try clear hcz11_0
                              try clear hcz11_1
                              try clear hcz11_2
                              try clear hcz11_3
                              try clear hcz15_0
                              try clear hcz15_1
                              try clear hcz15_2
                              try clear hcz15_3
                              try clear hcz17_0
                              try clear hcz17_1
                              try clear hcz17_2
                              try clear hcz17_3
                              try clear hfz11_0
                              try clear hfz11_1
                              try clear hfz11_2
                              try clear hfz11_3
                              try clear hfz15_0
                              try clear hfz15_1
                              try clear hfz15_2
                              try clear hfz15_3
                              try clear hfz17_0
                              try clear hfz17_1
                              try clear hfz17_2
                              try clear hfz17_3
                              try clear p2
                              try clear p6
                              try clear p64
                              obtain ⟨kq, x21_100, x22_100, rfl, rfl, HA, HJ100, HO_327002, HO_327003, BK326, HB⟩ := hcut
                              cases kq with
                              | zero => exact absurd HA.out (by simp [laws_FnTopOfAll.j10])
                              | succ kj100 =>
                               have H := HA.out
                               clear HA
                               simp only [laws_FnTopOfAll.j10] at H
                               replace H := Option.bind_eq_some_iff.mp H
                               obtain ⟨⟨t358, t361, t364, t365⟩, A1150, H⟩ := H
                               try dsimp only at H
                               have A115 := Aside0.mk A1150
                               clear A1150
                               by_cases c116 : t365 = true
                               ·subst c116
                                rw [if_pos rfl] at H
                                have H1 := H
                                clear H
                                have H := H1
                                clear H1
                                by_cases c117 : t364.toList = x21_100.toList
                                ·rw [if_pos c117] at H
                                 have c117b0 := beq_iff_eq.mpr c117
                                 have c117b1 := bne_eq_false_iff_eq.mpr c117
                                 clear c117
                                 replace H := Option.bind_eq_some_iff.mp H
                                 obtain ⟨t367, A1180, H⟩ := H
                                 try dsimp only at H
                                 have A118 := Aside0.mk A1180
                                 clear A1180
                                 obtain rfl := Option.some.inj H
                                 go_wp2_with (first | ((with_reducible refine gate_callee (f := 18) rfl ?_); refine goesL_ (some 259) rfl rfl Tryz.func18 Qi0_ rfl #[.agg #[.slice none 0 0, .slice none 0 0], .string x22_100] rfl Qb0_ ?_; (refine (impl_RunConsole.calls kj100 _ _ ([] : List ByteArray) _ _ ([] : List ByteArray) x22_100 t358 t361 t364 true _ ?side1 ?side2 ?side3 ?side4 ?tb A115.out).mono ?_); (case tb => exact Qg0_); (case side1 => exact Kd.C_nil _ _); (case side2 => exact Nat.le_refl _); (case side3 => exact Kd.C_nil _ _); (case side4 => exact Nat.le_refl _); rintro e w119 ⟨v359, v362, rfl, ho0, ho1, hb⟩; refine ⟨_, rfl, ?_⟩; have n0_ := Aside0.mk (Kd.R_mono (Kd.R_told (Kd.R_told (Kd.R_old (Qr_ HO_327002.out) hb) (Kd.R_base ho0)) (Kd.R_base ho1)) (fun _ h_ => h_.1)); have n1_ := Aside0.mk (Kd.R_mono (Kd.R_told (Kd.R_told (Kd.R_old (Qr_ HO_327003.out) hb) (Kd.R_base ho0)) (Kd.R_base ho1)) (fun _ h_ => h_.1)); have n2_ := Aside0.mk (Kd.R_lower (Kd.R_new' (Kd.R_new' ho0 (Kd.R_lt (Qr_ HO_327002.out))) (Kd.R_lt (Qr_ HO_327003.out))) (below_size (Qg_ GE326.out))); have n3_ := Aside0.mk (Kd.R_lower (Kd.R_new' (Kd.R_new' ho1 (Kd.R_lt (Qr_ HO_327002.out))) (Kd.R_lt (Qr_ HO_327003.out))) (below_size (Qg_ GE326.out))); have n4_ := Aside0.mk (blk_below (g := gb326) (o := .cells #[.int .i64 t317, .int .i64 t318, .slice Ao12 t319.length co12, .slice Ao13 t322.length co13] 25 (0, 0)) (Qk_ BK326.out) hb); have n5_ := Aside0.mk (below_step (Qg_ GE326.out) hb); clear HO_327002; clear HO_327003; clear BK326; clear HB; have HO_327002 := n0_; have HO_327003 := n1_; have HO360 := n2_; have HO363 := n3_; have BK326 := n4_; have HB := n5_; clear n0_ n1_ n2_ n3_ n4_ n5_; (try clear hb); (try clear hb2); (try clear hk); (try clear hi); (try clear ho0); (try clear ho1)) | ((with_reducible refine gate_dst (N := 38) rfl ?_); refine box_event ?hg (N := 38) ?hd (cs := #[.slice none 0 0, .slice none 0 0]) (t := 39) ?hr ?_; (case hd => rfl); (case hg => rfl); (case hr => exact Qh0_); intro gb366 hg w120 hbox hb; have n0_ := Aside0.mk (Kd.R_below (Qr_ HO_327002.out) hb); have n1_ := Aside0.mk (Kd.R_below (Qr_ HO_327003.out) hb); have n2_ := Aside0.mk (Kd.R_below (Qr_ HO360.out) hb); have n3_ := Aside0.mk (Kd.R_below (Qr_ HO363.out) hb); have n4_ := Aside0.mk (blk_below (g := gb326) (o := .cells #[.int .i64 t317, .int .i64 t318, .slice Ao12 t319.length co12, .slice Ao13 t322.length co13] 25 (0, 0)) (Qk_ BK326.out) hb); have n5_ := Aside0.mk (below_step (Qg_ GE326.out) hb); have n6_ := Aside0.mk (hbox); have n7_ := Aside0.mk ((by rw [hg]; exact (below_size (Qg_ GE326.out)) : w.heap.size ≤ gb366)); have n8_ := Aside0.mk ((by rw [hg]; exact (below_size (Qg_ GE326.out)) : w.heap.size ≤ gb366)); have n9_ := Aside0.mk ((Qe1_ : gb326 ≠ gb366)); have n10_ := Aside0.mk ((Qf1_ : gb366 ≠ gb326)); clear HO_327002; clear HO_327003; clear HO360; clear HO363; clear BK326; clear HB; have HO_327002 := n0_; have HO_327003 := n1_; have HO360 := n2_; have HO363 := n3_; have BK326 := n4_; have HB := n5_; have BK366 := n6_; have GW366 := n7_; have GE366 := n8_; have NB326_366 := n9_; have NB366_326 := n10_; clear n0_ n1_ n2_ n3_ n4_ n5_ n6_ n7_ n8_ n9_ n10_; clear hb hbox hg; obtain ⟨Ao121, co121, eo121⟩ := Kd.R_slice HO360.out; subst eo121; have hnb122 := NB366_326.out; have hnc122 := NB326_366.out; have hcz123_0 : w120.cell? ⟨gb366, 0, none⟩ = some (.slice none 0 0) := (blk_cell BK366.out 0).trans rfl; have hcz123_1 : w120.cell? ⟨gb366, 1, none⟩ = some (.slice none 0 0) := (blk_cell BK366.out 1).trans rfl; have hfz123_0 := blk_frozen BK366.out 0; have hfz123_1 := blk_frozen BK366.out 1; obtain ⟨Ao124, co124, eo124⟩ := Kd.R_slice HO363.out; subst eo124) | (go_at_call 20; (with_reducible refine (impl_ValidConsole.calls kj100 _ _ t358 _ _ t361 t367 _ ?side1 ?side2 ?side3 ?side4 A118.out).mono ?_); (case side1 => refine (Kd.R_reads' (e := 9) (base := w.heap.size) (ok := fun k_ => ((some k_ ≠ (.slice Ao124 t361.length co124 : Value).ownBlock ∧ some k_ ≠ (.slice Ao12 t319.length co12 : Value).ownBlock) ∧ some k_ ≠ (.slice Ao13 t322.length co13 : Value).ownBlock)) (n := t358.length) (c := co121) ?_).2.2; exact Qm1_); (case side2 => exact (Kd.R_reads' HO360.out).2.1); (case side3 => refine (Kd.R_reads' (e := 9) (base := w.heap.size) (ok := fun k_ => ((some k_ ≠ (.slice Ao121 t358.length co121 : Value).ownBlock ∧ some k_ ≠ (.slice Ao12 t319.length co12 : Value).ownBlock) ∧ some k_ ≠ (.slice Ao13 t322.length co13 : Value).ownBlock)) (n := t361.length) (c := co124) ?_).2.2; exact Ql1_); (case side4 => exact (Kd.R_reads' HO363.out).2.1); rintro e w125 ⟨rfl, hb⟩; have n0_ := Aside0.mk (Kd.R_below (by (with_reducible repeat (first | apply Kd.R_alloc | apply Kd.R_drewN | apply Kd.R_drew)); exact (Kd.R_mono (Kd.R_far (p := ⟨gb366, 1, none⟩) (Kd.R_far (p := ⟨gb366, 0, none⟩) (Kd.R_types HO_327002.out BK366.out (by decide)) (fun _ hk => hk.2) (.slice Ao121 t358.length co121)) (fun _ hk => hk.2) (.slice Ao124 t361.length co124)) (fun _ h_ => h_.1))) hb); have n1_ := Aside0.mk (Kd.R_below (by (with_reducible repeat (first | apply Kd.R_alloc | apply Kd.R_drewN | apply Kd.R_drew)); exact (Kd.R_mono (Kd.R_far (p := ⟨gb366, 1, none⟩) (Kd.R_far (p := ⟨gb366, 0, none⟩) (Kd.R_types HO_327003.out BK366.out (by decide)) (fun _ hk => hk.2) (.slice Ao121 t358.length co121)) (fun _ hk => hk.2) (.slice Ao124 t361.length co124)) (fun _ h_ => h_.1))) hb); have n2_ := Aside0.mk (Kd.R_below Qm1_ hb); have n3_ := Aside0.mk (Kd.R_below Ql1_ hb); have n4_ := Aside0.mk (blk_below (g := gb326) (o := .cells #[.int .i64 t317, .int .i64 t318, .slice Ao12 t319.length co12, .slice Ao13 t322.length co13] 25 (0, 0)) Qj1_ hb); have n5_ := Aside0.mk (blk_below (g := gb366) (o := .cells #[.slice Ao121 t358.length co121, .slice Ao124 t361.length co124] 39 (0, 0)) (by (with_reducible repeat (first | refine blk_drewN ?_ _ | refine blk_drew ?_ | refine blk_alloc ?_ _)); refine blk_put (cs := #[.slice Ao121 t358.length co121, .slice none 0 0]) ?_ 1 _ rfl; (with_reducible repeat (first | refine blk_drewN ?_ _ | refine blk_drew ?_ | refine blk_alloc ?_ _)); refine blk_put (cs := #[.slice none 0 0, .slice none 0 0]) ?_ 0 _ rfl; (with_reducible repeat (first | refine blk_drewN ?_ _ | refine blk_drew ?_ | refine blk_alloc ?_ _)); exact BK366.out) hb); have n6_ := Aside0.mk (below_step Qm0_ hb); clear HO_327002; clear HO_327003; clear HO360; clear HO363; clear BK326; clear BK366; clear HB; have HO_327002 := n0_; have HO_327003 := n1_; have HO360 := n2_; have HO363 := n3_; have BK326 := n4_; have BK366 := n5_; have HB := n6_; clear n0_ n1_ n2_ n3_ n4_ n5_ n6_; (try clear hb); (try clear hb2); (try clear hk); (try clear hi)))
                                 go_ret
                                 exact ⟨Qe0_, Qm0_⟩
                                ·rw [if_neg c117] at H
                                 have c117b0 := beq_eq_false_iff_ne.mpr c117
                                 have c117b1 := bne_iff_ne.mpr c117
                                 obtain rfl := Option.some.inj H
                                 go_wp2_with (first | ((with_reducible refine gate_callee (f := 18) rfl ?_); refine goesL_ (some 259) rfl rfl Tryz.func18 Qi0_ rfl #[.agg #[.slice none 0 0, .slice none 0 0], .string x22_100] rfl Qb0_ ?_; (refine (impl_RunConsole.calls kj100 _ _ ([] : List ByteArray) _ _ ([] : List ByteArray) x22_100 t358 t361 t364 true _ ?side1 ?side2 ?side3 ?side4 ?tb A115.out).mono ?_); (case tb => exact Qg0_); (case side1 => exact Kd.C_nil _ _); (case side2 => exact Nat.le_refl _); (case side3 => exact Kd.C_nil _ _); (case side4 => exact Nat.le_refl _); rintro e w126 ⟨v359, v362, rfl, ho0, ho1, hb⟩; refine ⟨_, rfl, ?_⟩; have n0_ := Aside0.mk (Kd.R_mono (Kd.R_told (Kd.R_told (Kd.R_old (Qr_ HO_327002.out) hb) (Kd.R_base ho0)) (Kd.R_base ho1)) (fun _ h_ => h_.1)); have n1_ := Aside0.mk (Kd.R_mono (Kd.R_told (Kd.R_told (Kd.R_old (Qr_ HO_327003.out) hb) (Kd.R_base ho0)) (Kd.R_base ho1)) (fun _ h_ => h_.1)); have n2_ := Aside0.mk (Kd.R_lower (Kd.R_new' (Kd.R_new' ho0 (Kd.R_lt (Qr_ HO_327002.out))) (Kd.R_lt (Qr_ HO_327003.out))) (below_size (Qg_ GE326.out))); have n3_ := Aside0.mk (Kd.R_lower (Kd.R_new' (Kd.R_new' ho1 (Kd.R_lt (Qr_ HO_327002.out))) (Kd.R_lt (Qr_ HO_327003.out))) (below_size (Qg_ GE326.out))); have n4_ := Aside0.mk (blk_below (g := gb326) (o := .cells #[.int .i64 t317, .int .i64 t318, .slice Ao12 t319.length co12, .slice Ao13 t322.length co13] 25 (0, 0)) (Qk_ BK326.out) hb); have n5_ := Aside0.mk (below_step (Qg_ GE326.out) hb); clear HO_327002; clear HO_327003; clear BK326; clear HB; have HO_327002 := n0_; have HO_327003 := n1_; have HO360 := n2_; have HO363 := n3_; have BK326 := n4_; have HB := n5_; clear n0_ n1_ n2_ n3_ n4_ n5_; (try clear hb); (try clear hb2); (try clear hk); (try clear hi); (try clear ho0); (try clear ho1)) | ((with_reducible refine gate_dst (N := 38) rfl ?_); refine box_event ?hg (N := 38) ?hd (cs := #[.slice none 0 0, .slice none 0 0]) (t := 39) ?hr ?_; (case hd => rfl); (case hg => rfl); (case hr => exact Qh0_); intro gb366 hg w127 hbox hb; have n0_ := Aside0.mk (Kd.R_below (Qr_ HO_327002.out) hb); have n1_ := Aside0.mk (Kd.R_below (Qr_ HO_327003.out) hb); have n2_ := Aside0.mk (Kd.R_below (Qr_ HO360.out) hb); have n3_ := Aside0.mk (Kd.R_below (Qr_ HO363.out) hb); have n4_ := Aside0.mk (blk_below (g := gb326) (o := .cells #[.int .i64 t317, .int .i64 t318, .slice Ao12 t319.length co12, .slice Ao13 t322.length co13] 25 (0, 0)) (Qk_ BK326.out) hb); have n5_ := Aside0.mk (below_step (Qg_ GE326.out) hb); have n6_ := Aside0.mk (hbox); have n7_ := Aside0.mk ((by rw [hg]; exact (below_size (Qg_ GE326.out)) : w.heap.size ≤ gb366)); have n8_ := Aside0.mk ((by rw [hg]; exact (below_size (Qg_ GE326.out)) : w.heap.size ≤ gb366)); have n9_ := Aside0.mk ((Qe1_ : gb326 ≠ gb366)); have n10_ := Aside0.mk ((Qf1_ : gb366 ≠ gb326)); clear HO_327002; clear HO_327003; clear HO360; clear HO363; clear BK326; clear HB; have HO_327002 := n0_; have HO_327003 := n1_; have HO360 := n2_; have HO363 := n3_; have BK326 := n4_; have HB := n5_; have BK366 := n6_; have GW366 := n7_; have GE366 := n8_; have NB326_366 := n9_; have NB366_326 := n10_; clear n0_ n1_ n2_ n3_ n4_ n5_ n6_ n7_ n8_ n9_ n10_; clear hb hbox hg; obtain ⟨Ao128, co128, eo128⟩ := Kd.R_slice HO360.out; subst eo128; have hnb129 := NB366_326.out; have hnc129 := NB326_366.out; have hcz130_0 : w127.cell? ⟨gb366, 0, none⟩ = some (.slice none 0 0) := (blk_cell BK366.out 0).trans rfl; have hcz130_1 : w127.cell? ⟨gb366, 1, none⟩ = some (.slice none 0 0) := (blk_cell BK366.out 1).trans rfl; have hfz130_0 := blk_frozen BK366.out 0; have hfz130_1 := blk_frozen BK366.out 1; obtain ⟨Ao131, co131, eo131⟩ := Kd.R_slice HO363.out; subst eo131))
                                 go_ret
                                 exact ⟨Qe0_, Qm0_⟩
                               ·replace c116 := Bool.eq_false_iff.mpr c116
                                subst c116
                                rw [if_neg (show ¬ (false = true) by decide)] at H
                                have H1 := H
                                clear H
                                have H := H1
                                clear H1
                                replace H := Option.bind_eq_some_iff.mp H
                                obtain ⟨⟨t368, t371, t374, t375⟩, A1320, H⟩ := H
                                try dsimp only at H
                                have A132 := Aside0.mk A1320
                                clear A1320
                                obtain rfl := Option.some.inj H
                                go_wp2_with (first | ((with_reducible refine gate_callee (f := 18) rfl ?_); refine goesL_ (some 259) rfl rfl Tryz.func18 Qi0_ rfl #[.agg #[.slice none 0 0, .slice none 0 0], .string x22_100] rfl Qb0_ ?_; (refine (impl_RunConsole.calls kj100 _ _ ([] : List ByteArray) _ _ ([] : List ByteArray) x22_100 t358 t361 t364 false _ ?side1 ?side2 ?side3 ?side4 ?tb A115.out).mono ?_); (case tb => exact Qg0_); (case side1 => exact Kd.C_nil _ _); (case side2 => exact Nat.le_refl _); (case side3 => exact Kd.C_nil _ _); (case side4 => exact Nat.le_refl _); rintro e w133 ⟨v359, v362, rfl, ho0, ho1, hb⟩; refine ⟨_, rfl, ?_⟩; have n0_ := Aside0.mk (Kd.R_mono (Kd.R_told (Kd.R_told (Kd.R_old (Qr_ HO_327002.out) hb) (Kd.R_base ho0)) (Kd.R_base ho1)) (fun _ h_ => h_.1)); have n1_ := Aside0.mk (Kd.R_mono (Kd.R_told (Kd.R_told (Kd.R_old (Qr_ HO_327003.out) hb) (Kd.R_base ho0)) (Kd.R_base ho1)) (fun _ h_ => h_.1)); have n2_ := Aside0.mk (Kd.R_lower (Kd.R_new' (Kd.R_new' ho0 (Kd.R_lt (Qr_ HO_327002.out))) (Kd.R_lt (Qr_ HO_327003.out))) (below_size (Qg_ GE326.out))); have n3_ := Aside0.mk (Kd.R_lower (Kd.R_new' (Kd.R_new' ho1 (Kd.R_lt (Qr_ HO_327002.out))) (Kd.R_lt (Qr_ HO_327003.out))) (below_size (Qg_ GE326.out))); have n4_ := Aside0.mk (blk_below (g := gb326) (o := .cells #[.int .i64 t317, .int .i64 t318, .slice Ao12 t319.length co12, .slice Ao13 t322.length co13] 25 (0, 0)) (Qk_ BK326.out) hb); have n5_ := Aside0.mk (below_step (Qg_ GE326.out) hb); clear HO_327002; clear HO_327003; clear BK326; clear HB; have HO_327002 := n0_; have HO_327003 := n1_; have HO360 := n2_; have HO363 := n3_; have BK326 := n4_; have HB := n5_; clear n0_ n1_ n2_ n3_ n4_ n5_; (try clear hb); (try clear hb2); (try clear hk); (try clear hi); (try clear ho0); (try clear ho1)) | ((with_reducible refine gate_dst (N := 38) rfl ?_); refine box_event ?hg (N := 38) ?hd (cs := #[.slice none 0 0, .slice none 0 0]) (t := 39) ?hr ?_; (case hd => rfl); (case hg => rfl); (case hr => exact Qh0_); intro gb366 hg w134 hbox hb; have n0_ := Aside0.mk (Kd.R_below (Qr_ HO_327002.out) hb); have n1_ := Aside0.mk (Kd.R_below (Qr_ HO_327003.out) hb); have n2_ := Aside0.mk (Kd.R_below (Qr_ HO360.out) hb); have n3_ := Aside0.mk (Kd.R_below (Qr_ HO363.out) hb); have n4_ := Aside0.mk (blk_below (g := gb326) (o := .cells #[.int .i64 t317, .int .i64 t318, .slice Ao12 t319.length co12, .slice Ao13 t322.length co13] 25 (0, 0)) (Qk_ BK326.out) hb); have n5_ := Aside0.mk (below_step (Qg_ GE326.out) hb); have n6_ := Aside0.mk (hbox); have n7_ := Aside0.mk ((by rw [hg]; exact (below_size (Qg_ GE326.out)) : w.heap.size ≤ gb366)); have n8_ := Aside0.mk ((by rw [hg]; exact (below_size (Qg_ GE326.out)) : w.heap.size ≤ gb366)); have n9_ := Aside0.mk ((Qe1_ : gb326 ≠ gb366)); have n10_ := Aside0.mk ((Qf1_ : gb366 ≠ gb326)); clear HO_327002; clear HO_327003; clear HO360; clear HO363; clear BK326; clear HB; have HO_327002 := n0_; have HO_327003 := n1_; have HO360 := n2_; have HO363 := n3_; have BK326 := n4_; have HB := n5_; have BK366 := n6_; have GW366 := n7_; have GE366 := n8_; have NB326_366 := n9_; have NB366_326 := n10_; clear n0_ n1_ n2_ n3_ n4_ n5_ n6_ n7_ n8_ n9_ n10_; clear hb hbox hg; obtain ⟨Ao135, co135, eo135⟩ := Kd.R_slice HO360.out; subst eo135; have hnb136 := NB366_326.out; have hnc136 := NB326_366.out; have hcz137_0 : w134.cell? ⟨gb366, 0, none⟩ = some (.slice none 0 0) := (blk_cell BK366.out 0).trans rfl; have hcz137_1 : w134.cell? ⟨gb366, 1, none⟩ = some (.slice none 0 0) := (blk_cell BK366.out 1).trans rfl; have hfz137_0 := blk_frozen BK366.out 0; have hfz137_1 := blk_frozen BK366.out 1; obtain ⟨Ao138, co138, eo138⟩ := Kd.R_slice HO363.out; subst eo138) | ((with_reducible refine gate_callee (f := 19) rfl ?_); refine goesL_ (some 268) rfl rfl Tryz.func19 Qi0_ rfl #[.agg #[.slice none 0 0, .slice none 0 0], .string x22_100] rfl Qb0_ ?_; (refine (spec_RunConsole.calls kj100 _ _ ([] : List ByteArray) _ _ ([] : List ByteArray) x22_100 t368 t371 t374 t375 _ ?side1 ?side2 ?side3 ?side4 A132.out).mono ?_); (case side1 => exact Kd.C_nil _ _); (case side2 => exact Nat.le_refl _); (case side3 => exact Kd.C_nil _ _); (case side4 => exact Nat.le_refl _); rintro e w139 ⟨v369, v372, rfl, ho0, ho1, hb⟩; refine ⟨_, rfl, ?_⟩; have n0_ := Aside0.mk (Kd.R_mono (Kd.R_told (Kd.R_told (Kd.R_old Qu0_ hb) (Kd.R_base ho0)) (Kd.R_base ho1)) (fun _ h_ => h_.1)); have n1_ := Aside0.mk (Kd.R_mono (Kd.R_told (Kd.R_told (Kd.R_old Qt0_ hb) (Kd.R_base ho0)) (Kd.R_base ho1)) (fun _ h_ => h_.1)); have n2_ := Aside0.mk (Kd.R_mono (Kd.R_told (Kd.R_told (Kd.R_old Qw0_ hb) (Kd.R_base ho0)) (Kd.R_base ho1)) (fun _ h_ => h_.1)); have n3_ := Aside0.mk (Kd.R_mono (Kd.R_told (Kd.R_told (Kd.R_old Qv0_ hb) (Kd.R_base ho0)) (Kd.R_base ho1)) (fun _ h_ => h_.1)); have n4_ := Aside0.mk (Kd.R_lower (Kd.R_new' (Kd.R_new' (Kd.R_new' (Kd.R_new' ho0 (Kd.R_lt Qu0_)) (Kd.R_lt Qt0_)) (Kd.R_lt Qw0_)) (Kd.R_lt Qv0_)) (below_size Qm0_)); have n5_ := Aside0.mk (Kd.R_lower (Kd.R_new' (Kd.R_new' (Kd.R_new' (Kd.R_new' ho1 (Kd.R_lt Qu0_)) (Kd.R_lt Qt0_)) (Kd.R_lt Qw0_)) (Kd.R_lt Qv0_)) (below_size Qm0_)); have n6_ := Aside0.mk (blk_below (g := gb326) (o := .cells #[.int .i64 t317, .int .i64 t318, .slice Ao12 t319.length co12, .slice Ao13 t322.length co13] 25 (0, 0)) Qj1_ hb); have n7_ := Aside0.mk (blk_below (g := gb366) (o := .cells #[.slice Ao135 t358.length co135, .slice Ao138 t361.length co138] 39 (0, 0)) (by (with_reducible repeat (first | refine blk_drewN ?_ _ | refine blk_drew ?_ | refine blk_alloc ?_ _)); refine blk_put (cs := #[.slice Ao135 t358.length co135, .slice none 0 0]) ?_ 1 _ rfl; (with_reducible repeat (first | refine blk_drewN ?_ _ | refine blk_drew ?_ | refine blk_alloc ?_ _)); refine blk_put (cs := #[.slice none 0 0, .slice none 0 0]) ?_ 0 _ rfl; (with_reducible repeat (first | refine blk_drewN ?_ _ | refine blk_drew ?_ | refine blk_alloc ?_ _)); exact BK366.out) hb); have n8_ := Aside0.mk (below_step Qm0_ hb); clear HO_327002; clear HO_327003; clear HO360; clear HO363; clear BK326; clear BK366; clear HB; have HO_327002 := n0_; have HO_327003 := n1_; have HO360 := n2_; have HO363 := n3_; have HO370 := n4_; have HO373 := n5_; have BK326 := n6_; have BK366 := n7_; have HB := n8_; clear n0_ n1_ n2_ n3_ n4_ n5_ n6_ n7_ n8_; (try clear hb); (try clear hb2); (try clear hk); (try clear hi); (try clear ho0); (try clear ho1)) | ((with_reducible refine gate_dst (N := 41) rfl ?_); refine box_event ?hg (N := 41) ?hd (cs := #[.slice none 0 0, .slice none 0 0]) (t := 39) ?hr ?_; (case hd => rfl); (case hg => rfl); (case hr => exact Qh0_); intro gb376 hg w140 hbox hb; have n0_ := Aside0.mk (Kd.R_below (Qr_ HO_327002.out) hb); have n1_ := Aside0.mk (Kd.R_below (Qr_ HO_327003.out) hb); have n2_ := Aside0.mk (Kd.R_below (Qr_ HO360.out) hb); have n3_ := Aside0.mk (Kd.R_below (Qr_ HO363.out) hb); have n4_ := Aside0.mk (Kd.R_below (Qr_ HO370.out) hb); have n5_ := Aside0.mk (Kd.R_below (Qr_ HO373.out) hb); have n6_ := Aside0.mk (blk_below (g := gb326) (o := .cells #[.int .i64 t317, .int .i64 t318, .slice Ao12 t319.length co12, .slice Ao13 t322.length co13] 25 (0, 0)) (Qk_ BK326.out) hb); have n7_ := Aside0.mk (blk_below (g := gb366) (o := .cells #[.slice Ao135 t358.length co135, .slice Ao138 t361.length co138] 39 (0, 0)) (Qk_ BK366.out) hb); have n8_ := Aside0.mk (below_step Qm0_ hb); have n9_ := Aside0.mk (hbox); have n10_ := Aside0.mk ((by rw [hg]; exact (below_size Qm0_) : w.heap.size ≤ gb376)); have n11_ := Aside0.mk ((by rw [hg]; exact (below_size Qm0_) : w.heap.size ≤ gb376)); have n12_ := Aside0.mk ((Qe1_ : gb326 ≠ gb376)); have n13_ := Aside0.mk ((Qf1_ : gb376 ≠ gb326)); have n14_ := Aside0.mk ((by rw [hg]; exact Nat.ne_of_lt (blk_lt (g := gb366) (o := .cells #[.slice Ao135 t358.length co135, .slice Ao138 t361.length co138] 39 (0, 0)) (Qk_ BK366.out)) : gb366 ≠ gb376)); have n15_ := Aside0.mk ((by rw [hg]; exact Nat.ne_of_gt (blk_lt (g := gb366) (o := .cells #[.slice Ao135 t358.length co135, .slice Ao138 t361.length co138] 39 (0, 0)) (Qk_ BK366.out)) : gb376 ≠ gb366)); clear HO_327002; clear HO_327003; clear HO360; clear HO363; clear HO370; clear HO373; clear BK326; clear BK366; clear HB; have HO_327002 := n0_; have HO_327003 := n1_; have HO360 := n2_; have HO363 := n3_; have HO370 := n4_; have HO373 := n5_; have BK326 := n6_; have BK366 := n7_; have HB := n8_; have BK376 := n9_; have GW376 := n10_; have GE376 := n11_; have NB326_376 := n12_; have NB376_326 := n13_; have NB366_376 := n14_; have NB376_366 := n15_; clear n0_ n1_ n2_ n3_ n4_ n5_ n6_ n7_ n8_ n9_ n10_ n11_ n12_ n13_ n14_ n15_; clear hb hbox hg; obtain ⟨Ao141, co141, eo141⟩ := Kd.R_slice HO370.out; subst eo141; have hnb142 := NB376_326.out; have hnc142 := NB326_376.out; have hnb143 := NB376_366.out; have hnc143 := NB366_376.out; have hcz144_0 : w140.cell? ⟨gb376, 0, none⟩ = some (.slice none 0 0) := (blk_cell BK376.out 0).trans rfl; have hcz144_1 : w140.cell? ⟨gb376, 1, none⟩ = some (.slice none 0 0) := (blk_cell BK376.out 1).trans rfl; have hfz144_0 := blk_frozen BK376.out 0; have hfz144_1 := blk_frozen BK376.out 1; obtain ⟨Ao145, co145, eo145⟩ := Kd.R_slice HO373.out; subst eo145))
                                go_ret
                                exact ⟨Qe0_, by repeat (first | (with_reducible first | exact HB.out | apply below_alloc | apply pw_below_drewN | apply below_drew1 | refine below_set ?_ GE326.out | refine below_set ?_ GE366.out | refine below_set ?_ GE376.out) | exact HB.out)⟩
                ·rw [if_neg c39] at H
                 exact absurd H (by simp)
               ·rw [if_neg c38] at H
                exact absurd H (by simp)
              ·rw [if_neg c37] at H
               exact absurd H (by simp)
             ·rw [if_neg c36] at H
              exact absurd H (by simp)
            ·rw [if_neg c35] at H
             exact absurd H (by simp)
           ·rw [if_neg c34] at H
            exact absurd H (by simp)
          ·rw [if_neg c33] at H
           exact absurd H (by simp)
def laws_FnTopOfAll.Pure : Prop := ∀ (l0 : List Int) (a1 : Int) (a2 : Int), l0.length ≤ maxLen → l0.length * 8 ≤ 140737488351232 → (∀ x ∈ l0, (Lit.int .i64 x).wf = true) → (Lit.int .i64 a1).wf = true → (Lit.int .i64 a2).wf = true → ∃ k, laws_FnTopOfAll.f k l0 a1 a2 = some true
theorem laws_FnTopOfAll.walk (P : laws_FnTopOfAll.Pure) (a0 : Option Addr) (len0 cap0 : Nat) (z0 : List Int) (a1 : Int) (a2 : Int) (w : World) (hT : LibW w) (w0 : (a0 = none ∧ len0 = 0 ∧ cap0 = 0 ∧ z0 = []) ∨ ∃ x, a0 = some x ∧ len0 ≤ cap0 ∧ cap0 ≤ maxLen ∧ z0.length = cap0 ∧ (∀ i, i < z0.length → w.cell? (x.add i) = some (.int .i64 (z0.getD i 0))) ∧ ∀ n ∈ z0, (Lit.int .i64 n).wf = true) (y0 : len0 * 8 ≤ 140737488351232) (w1 : (Lit.int .i64 a1).wf = true) (w2 : (Lit.int .i64 a2).wf = true) :
 Calls Tryz.prog 3 #[.slice a0 len0 cap0, .int .i64 a1, .int .i64 a2] w fun e w' => e = .returned (.bool true) ∧ Below w.heap.size w w' := by
 obtain ⟨l0, rfl, hr0, hm0, hw0, hc0⟩ := ReadsInt.ofRowC w0
 obtain ⟨k, h⟩ := P l0 a1 a2 hm0 y0 hw0 w1 w2
 refine (laws_FnTopOfAll.calls k _ _ l0 a1 a2 true w (Kd.C_of_reads (d := (0 : Int)) (h1 := fun _ => rfl) hr0) hc0 hT h).mono ?_
 rintro e w' ⟨rfl, hd⟩
 exact ⟨rfl, hd⟩
end Go.Proofs.YtbjmbfjbjkhhdaaGreatDoor.QFnTopOfAll
