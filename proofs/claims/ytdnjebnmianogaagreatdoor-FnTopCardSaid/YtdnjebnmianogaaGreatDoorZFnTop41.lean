/- Made small by wip/pack.py: lemmas and contracts that the law's row leans on. -/
import Derived.Test.YtdnjebnmianogaaGreatDoorZFnTop27
import Derived.Test.YtdnjebnmianogaaGreatDoorZFnTop28
import Derived.Test.YtdnjebnmianogaaGreatDoorZFnTop29
import Derived.Test.YtdnjebnmianogaaGreatDoorZFnTop30
import Derived.Test.YtdnjebnmianogaaGreatDoorZFnTop32
import Derived.Test.YtdnjebnmianogaaGreatDoorZFnTop33
import Derived.Test.YtdnjebnmianogaaGreatDoorZFnTop34
import Derived.Test.YtdnjebnmianogaaGreatDoorZFnTop35
import Derived.Test.YtdnjebnmianogaaGreatDoorZFnTop40
namespace Go.Proofs.YtdnjebnmianogaaGreatDoor.QFnTop
open Go.RowKit Go.Proofs.YtdnjebnmianogaaGreatDoorW.PrintWords Go.Proofs.YtdnjebnmianogaaGreatDoorW.PrintLast Go.Proofs.YtdnjebnmianogaaGreatDoorW.PrintMore
attribute [local go_sem] max2_int min2_int max_two min_two max_three min_three max_four min_four
set_option linter.unusedVariables false
set_option linter.unusedSimpArgs false
mutual
def laws_FnTop.j0 : Nat → List Int → ByteArray → ByteArray → Int → Bool → Option (Bool)
 | 0, _, _, _, _, _ => none
 | k + 1, x1, x8, x10, x11, x62 => if x62 = true then (some false) else (if x10.toList = ([] : List UInt8) then (laws_FnTop.j1 k x1 x8 x10 x11 (wrap64 ((x10.size : Int) / 4)) (⟨#[110, 111, 110, 101]⟩ : ByteArray)) else (laws_FnTop.j1 k x1 x8 x10 x11 (wrap64 ((x10.size : Int) / 4)) x10))
def laws_FnTop.j1 : Nat → List Int → ByteArray → ByteArray → Int → Int → ByteArray → Option (Bool)
 | 0, _, _, _, _, _, _ => none
 | k + 1, x1, x8, x10, x11, x13, x14 => (impl_Decimal.f x11).bind fun t325 => (if t325.size + 1 ≤ 9223372036854775807 then (if (t325 ++ (⟨#[10]⟩ : ByteArray)).size + x14.size ≤ 9223372036854775807 then (if ((t325 ++ (⟨#[10]⟩ : ByteArray)) ++ x14).size + 1 ≤ 9223372036854775807 then (if (((t325 ++ (⟨#[10]⟩ : ByteArray)) ++ x14) ++ (⟨#[10]⟩ : ByteArray)).size + x8.size ≤ 9223372036854775807 then (if ((((t325 ++ (⟨#[10]⟩ : ByteArray)) ++ x14) ++ (⟨#[10]⟩ : ByteArray)) ++ x8).size + 6 ≤ 9223372036854775807 then (if 16 + x8.size ≤ 9223372036854775807 then (if ((⟨#[98, 108, 111, 99, 107, 115, 32, 120, 32, 50, 32, 52, 32, 45, 49, 32]⟩ : ByteArray) ++ x8).size + 22 ≤ 9223372036854775807 then (if x13 > 0 then ((impl_BlockInterleave.f k x13 4 x10).bind fun bt326 => ((impl_BlockDeinterleave.f k x13 4 bt326.1).bind fun bt328 => (if bt326.2 = true then (if bt328.2 = true then (laws_FnTop.j2 k x1 x10 x13 (((((t325 ++ (⟨#[10]⟩ : ByteArray)) ++ x14) ++ (⟨#[10]⟩ : ByteArray)) ++ x8) ++ (⟨#[32, 110, 111, 110, 101, 10]⟩ : ByteArray)) (((⟨#[98, 108, 111, 99, 107, 115, 32, 120, 32, 50, 32, 52, 32, 45, 49, 32]⟩ : ByteArray) ++ x8) ++ (⟨#[10, 115, 104, 111, 119, 32, 120, 10, 100, 97, 116, 97, 32, 120, 32, 50, 32, 52, 32, 45, 49, 10]⟩ : ByteArray)) bt326.1 (bt328.1.toList != x10.toList)) else (laws_FnTop.j2 k x1 x10 x13 (((((t325 ++ (⟨#[10]⟩ : ByteArray)) ++ x14) ++ (⟨#[10]⟩ : ByteArray)) ++ x8) ++ (⟨#[32, 110, 111, 110, 101, 10]⟩ : ByteArray)) (((⟨#[98, 108, 111, 99, 107, 115, 32, 120, 32, 50, 32, 52, 32, 45, 49, 32]⟩ : ByteArray) ++ x8) ++ (⟨#[10, 115, 104, 111, 119, 32, 120, 10, 100, 97, 116, 97, 32, 120, 32, 50, 32, 52, 32, 45, 49, 10]⟩ : ByteArray)) bt326.1 true)) else (laws_FnTop.j2 k x1 x10 x13 (((((t325 ++ (⟨#[10]⟩ : ByteArray)) ++ x14) ++ (⟨#[10]⟩ : ByteArray)) ++ x8) ++ (⟨#[32, 110, 111, 110, 101, 10]⟩ : ByteArray)) (((⟨#[98, 108, 111, 99, 107, 115, 32, 120, 32, 50, 32, 52, 32, 45, 49, 32]⟩ : ByteArray) ++ x8) ++ (⟨#[10, 115, 104, 111, 119, 32, 120, 10, 100, 97, 116, 97, 32, 120, 32, 50, 32, 52, 32, 45, 49, 10]⟩ : ByteArray)) bt326.1 true)))) else (laws_FnTop.j3 k x1 x10 x13 (((((t325 ++ (⟨#[10]⟩ : ByteArray)) ++ x14) ++ (⟨#[10]⟩ : ByteArray)) ++ x8) ++ (⟨#[32, 110, 111, 110, 101, 10]⟩ : ByteArray)) (((⟨#[98, 108, 111, 99, 107, 115, 32, 120, 32, 50, 32, 52, 32, 45, 49, 32]⟩ : ByteArray) ++ x8) ++ (⟨#[10, 115, 104, 111, 119, 32, 120, 10, 100, 97, 116, 97, 32, 120, 32, 50, 32, 52, 32, 45, 49, 10]⟩ : ByteArray)))) else (none)) else (none)) else (none)) else (none)) else (none)) else (none)) else (none))
def laws_FnTop.j3 : Nat → List Int → ByteArray → Int → ByteArray → ByteArray → Option (Bool)
 | 0, _, _, _, _, _ => none
 | k + 1, x1, x10, x13, x15, x16 => (impl_RepeatBits.f k x10 3).bind fun bt332 => ((impl_AddCheck.f k 11 x10).bind fun bt334 => ((spec_AddCheck.f k 11 x10).bind fun bt336 => (if bt332.2 = true then (if (bt334.2 != bt336.2) = true then (laws_FnTop.j4 k x1 x10 x13 x15 x16 bt332.1 bt334.1 bt334.2 true) else (if bt334.2 = true then ((impl_HasCheck.f k 11 bt334.1).bind fun t338 => (laws_FnTop.j4 k x1 x10 x13 x15 x16 bt332.1 bt334.1 bt334.2 (!t338))) else (laws_FnTop.j4 k x1 x10 x13 x15 x16 bt332.1 bt334.1 bt334.2 false))) else (laws_FnTop.j4 k x1 x10 x13 x15 x16 bt332.1 bt334.1 bt334.2 true))))
def laws_FnTop.j4 : Nat → List Int → ByteArray → Int → ByteArray → ByteArray → ByteArray → ByteArray → Bool → Bool → Option (Bool)
 | 0, _, _, _, _, _, _, _, _, _ => none
 | k + 1, x1, x10, x13, x15, x16, x21, x23, x24, x153 => if x153 = true then (some false) else (if x13 > 0 then ((laws_b10At.f x1 0 (x21.size : Int)).bind fun t339 => ((impl_Decimal.f t339).bind fun t340 => (if 20 + t340.size ≤ 9223372036854775807 then (if ((⟨#[114, 101, 112, 101, 97, 116, 32, 122, 32, 120, 32, 51, 10, 102, 108, 105, 112, 32, 122, 32]⟩ : ByteArray) ++ t340).size + 19 ≤ 9223372036854775807 then (if x16.size + (((⟨#[114, 101, 112, 101, 97, 116, 32, 122, 32, 120, 32, 51, 10, 102, 108, 105, 112, 32, 122, 32]⟩ : ByteArray) ++ t340) ++ (⟨#[10, 118, 111, 116, 101, 32, 122, 32, 122, 32, 51, 10, 115, 104, 111, 119, 32, 122, 10]⟩ : ByteArray)).size ≤ 9223372036854775807 then (if 9 + x10.size ≤ 9223372036854775807 then (if ((⟨#[111, 107, 10, 111, 107, 10, 111, 107, 10]⟩ : ByteArray) ++ x10).size + 1 ≤ 9223372036854775807 then (if x15.size + (((⟨#[111, 107, 10, 111, 107, 10, 111, 107, 10]⟩ : ByteArray) ++ x10) ++ (⟨#[10]⟩ : ByteArray)).size ≤ 9223372036854775807 then (laws_FnTop.j5 k (x15 ++ (((⟨#[111, 107, 10, 111, 107, 10, 111, 107, 10]⟩ : ByteArray) ++ x10) ++ (⟨#[10]⟩ : ByteArray))) (x16 ++ (((⟨#[114, 101, 112, 101, 97, 116, 32, 122, 32, 120, 32, 51, 10, 102, 108, 105, 112, 32, 122, 32]⟩ : ByteArray) ++ t340) ++ (⟨#[10, 118, 111, 116, 101, 32, 122, 32, 122, 32, 51, 10, 115, 104, 111, 119, 32, 122, 10]⟩ : ByteArray))) x23 x24) else (none)) else (none)) else (none)) else (none)) else (none)) else (none)))) else (laws_FnTop.j5 k x15 x16 x23 x24))
def laws_FnTop.j5 : Nat → ByteArray → ByteArray → ByteArray → Bool → Option (Bool)
 | 0, _, _, _, _ => none
 | k + 1, x15, x16, x23, x24 => if x24 = true then (if x16.size + 32 ≤ 9223372036854775807 then (if 7 + x23.size ≤ 9223372036854775807 then (if ((⟨#[111, 107, 10, 121, 101, 115, 10]⟩ : ByteArray) ++ x23).size + 1 ≤ 9223372036854775807 then (if x15.size + (((⟨#[111, 107, 10, 121, 101, 115, 10]⟩ : ByteArray) ++ x23) ++ (⟨#[10]⟩ : ByteArray)).size ≤ 9223372036854775807 then ((impl_RunConsole.f k ([] : List ByteArray) ([] : List ByteArray) (x16 ++ (⟨#[99, 104, 101, 99, 107, 32, 119, 32, 120, 32, 49, 49, 10, 118, 101, 114, 105, 102, 121, 32, 119, 32, 49, 49, 10, 115, 104, 111, 119, 32, 119, 10]⟩ : ByteArray))).bind fun bt341 => (if bt341.2.2.2 = true then (if bt341.2.2.1.toList = (x15 ++ (((⟨#[111, 107, 10, 121, 101, 115, 10]⟩ : ByteArray) ++ x23) ++ (⟨#[10]⟩ : ByteArray))).toList then ((impl_ValidConsole.f k bt341.1 bt341.2.1).bind fun t350 => (some t350)) else (some false)) else (some false))) else (none)) else (none)) else (none)) else (none)) else ((impl_RunConsole.f k ([] : List ByteArray) ([] : List ByteArray) x16).bind fun bt351 => (if bt351.2.2.2 = true then (if bt351.2.2.1.toList = x15.toList then ((impl_ValidConsole.f k bt351.1 bt351.2.1).bind fun t360 => (some t360)) else (some false)) else (some false)))
def laws_FnTop.j2 : Nat → List Int → ByteArray → Int → ByteArray → ByteArray → ByteArray → Bool → Option (Bool)
 | 0, _, _, _, _, _, _, _ => none
 | k + 1, x1, x10, x13, x15, x16, x17, x105 => if x105 = true then (some false) else ((impl_Decimal.f x13).bind fun t330 => (if 8 + t330.size ≤ 9223372036854775807 then (if ((⟨#[108, 97, 121, 32, 121, 32, 120, 32]⟩ : ByteArray) ++ t330).size + 20 ≤ 9223372036854775807 then ((impl_Decimal.f x13).bind fun t331 => (if (((⟨#[108, 97, 121, 32, 121, 32, 120, 32]⟩ : ByteArray) ++ t330) ++ (⟨#[32, 52, 10, 115, 104, 111, 119, 32, 121, 10, 117, 110, 108, 97, 121, 32, 121, 32, 121, 32]⟩ : ByteArray)).size + t331.size ≤ 9223372036854775807 then (if ((((⟨#[108, 97, 121, 32, 121, 32, 120, 32]⟩ : ByteArray) ++ t330) ++ (⟨#[32, 52, 10, 115, 104, 111, 119, 32, 121, 10, 117, 110, 108, 97, 121, 32, 121, 32, 121, 32]⟩ : ByteArray)) ++ t331).size + 10 ≤ 9223372036854775807 then (if x16.size + (((((⟨#[108, 97, 121, 32, 121, 32, 120, 32]⟩ : ByteArray) ++ t330) ++ (⟨#[32, 52, 10, 115, 104, 111, 119, 32, 121, 10, 117, 110, 108, 97, 121, 32, 121, 32, 121, 32]⟩ : ByteArray)) ++ t331) ++ (⟨#[32, 52, 10, 115, 104, 111, 119, 32, 121, 10]⟩ : ByteArray)).size ≤ 9223372036854775807 then (if 3 + x17.size ≤ 9223372036854775807 then (if ((⟨#[111, 107, 10]⟩ : ByteArray) ++ x17).size + 4 ≤ 9223372036854775807 then (if (((⟨#[111, 107, 10]⟩ : ByteArray) ++ x17) ++ (⟨#[10, 111, 107, 10]⟩ : ByteArray)).size + x10.size ≤ 9223372036854775807 then (if ((((⟨#[111, 107, 10]⟩ : ByteArray) ++ x17) ++ (⟨#[10, 111, 107, 10]⟩ : ByteArray)) ++ x10).size + 1 ≤ 9223372036854775807 then (if x15.size + (((((⟨#[111, 107, 10]⟩ : ByteArray) ++ x17) ++ (⟨#[10, 111, 107, 10]⟩ : ByteArray)) ++ x10) ++ (⟨#[10]⟩ : ByteArray)).size ≤ 9223372036854775807 then (laws_FnTop.j3 k x1 x10 x13 (x15 ++ (((((⟨#[111, 107, 10]⟩ : ByteArray) ++ x17) ++ (⟨#[10, 111, 107, 10]⟩ : ByteArray)) ++ x10) ++ (⟨#[10]⟩ : ByteArray))) (x16 ++ (((((⟨#[108, 97, 121, 32, 121, 32, 120, 32]⟩ : ByteArray) ++ t330) ++ (⟨#[32, 52, 10, 115, 104, 111, 119, 32, 121, 10, 117, 110, 108, 97, 121, 32, 121, 32, 121, 32]⟩ : ByteArray)) ++ t331) ++ (⟨#[32, 52, 10, 115, 104, 111, 119, 32, 121, 10]⟩ : ByteArray)))) else (none)) else (none)) else (none)) else (none)) else (none)) else (none)) else (none)) else (none))) else (none)) else (none)))
end
def laws_FnTop.f (k : Nat) (l0 : List Int) (l1 : List Int) : Option (Bool) := (laws_b10Long.f l0 l1).bind fun t306 => (if t306 = true then (some true) else ((impl_MakeBlockCode.f k 2 4).bind fun bt307 => ((spec_B10Data.f k l0 bt307.1 bt307.2.1 bt307.2.2.1 bt307.2.2.2.1).bind fun t317 => ((impl_ListText.f k t317).bind fun bt320 => ((impl_EncodeBlocks.f k bt307.1 bt307.2.1 bt307.2.2.1 bt307.2.2.2.1 (-1) t317).bind fun bt322 => (if bt307.2.2.2.2 = true then (if bt320.2 = true then (laws_FnTop.j0 k l1 bt320.1 bt322.1 bt322.2.1 (!bt322.2.2)) else (laws_FnTop.j0 k l1 bt320.1 bt322.1 bt322.2.1 true)) else (laws_FnTop.j0 k l1 bt320.1 bt322.1 bt322.2.1 true)))))))
set_option maxHeartbeats 8000000 in
set_option maxRecDepth 100000 in
theorem laws_FnTop.calls (k : Nat) (A0 : Option Addr) (c0 : Nat) (l0 : List Int) (A1 : Option Addr) (c1 : Nat) (l1 : List Int) (r : Bool) (w : World) (hr0 : Kd.C (Kd.int .u8) w A0 l0.length l0) (hc0 : l0.length ≤ c0) (hr1 : Kd.C (Kd.int .u8) w A1 l1.length l1) (hc1 : l1.length ≤ c1) (hT : LibW w) (h : laws_FnTop.f k l0 l1 = some r) :
 Calls Tryz.prog 3 #[.slice A0 l0.length c0, .slice A1 l1.length c1] w fun e w' => e = .returned (.bool r) ∧ Below w.heap.size w w' := by
 have HT := Aside0.mk hT
 clear hT
 have hu26 := Tryz.underlying26
 have hu42 := Tryz.underlying42
 have HR0 := Aside0.mk hr0
 have HC0 := Aside0.mk hc0
 clear hr0 hc0
 have HR1 := Aside0.mk hr1
 have HC1 := Aside0.mk hc1
 clear hr1 hc1
 have HB := Aside0.mk (Below.refl w.heap.size w)
 have H : ((laws_b10Long.f l0 l1).bind fun t306 => (if t306 = true then (some true) else ((impl_MakeBlockCode.f k 2 4).bind fun bt307 => ((spec_B10Data.f k l0 bt307.1 bt307.2.1 bt307.2.2.1 bt307.2.2.2.1).bind fun t317 => ((impl_ListText.f k t317).bind fun bt320 => ((impl_EncodeBlocks.f k bt307.1 bt307.2.1 bt307.2.2.1 bt307.2.2.2.1 (-1) t317).bind fun bt322 => (if bt307.2.2.2.2 = true then (if bt320.2 = true then (laws_FnTop.j0 k l1 bt320.1 bt322.1 bt322.2.1 (!bt322.2.2)) else (laws_FnTop.j0 k l1 bt320.1 bt322.1 bt322.2.1 true)) else (laws_FnTop.j0 k l1 bt320.1 bt322.1 bt322.2.1 true)))))))) = some r := h
 clear h
 replace H := Option.bind_eq_some_iff.mp H
 obtain ⟨t306, A30, H⟩ := H
 try dsimp only at H
 have A3 := Aside0.mk A30
 clear A30
 by_cases c4 : t306 = true
 ·subst c4
  rw [if_pos rfl] at H
  have H1 := H
  clear H
  have H := H1
  clear H1
  obtain rfl := Option.some.inj H
  go_enter Tryz.func3, Tryz.ntmps3
  go_wp2_with (first | ((with_reducible refine gate_callee (f := 4) rfl ?_); refine goesL_ (some 33) rfl rfl Tryz.func4 Qh0_ rfl #[.slice A0 l0.length c0, .slice A1 l1.length c1] rfl Qb0_ ?_; (with_reducible refine (laws_b10Long.calls _ _ l0 _ _ l1 true _ ?side1 ?side2 ?side3 ?side4 A3.out).mono ?_); (case side1 => exact Qc_ HR0.out); (case side2 => exact HC0.out); (case side3 => exact Qc_ HR1.out); (case side4 => exact HC1.out); rintro e w' ⟨rfl, ⟨nd, rfl⟩⟩; refine ⟨_, rfl, ?_⟩))
  go_ret
  exact ⟨Qd0_, Qa0_⟩
 ·replace c4 := Bool.eq_false_iff.mpr c4
  subst c4
  rw [if_neg (show ¬ (false = true) by decide)] at H
  have H1 := H
  clear H
  have H := H1
  clear H1
  replace H := Option.bind_eq_some_iff.mp H
  obtain ⟨⟨t307, t308, t309, t312, t315⟩, A50, H⟩ := H
  try dsimp only at H
  have A5 := Aside0.mk A50
  clear A50
  replace H := Option.bind_eq_some_iff.mp H
  obtain ⟨t317, A60, H⟩ := H
  try dsimp only at H
  have A6 := Aside0.mk A60
  clear A60
  replace H := Option.bind_eq_some_iff.mp H
  obtain ⟨⟨t320, t321⟩, A70, H⟩ := H
  try dsimp only at H
  have A7 := Aside0.mk A70
  clear A70
  replace H := Option.bind_eq_some_iff.mp H
  obtain ⟨⟨t322, t323, t324⟩, A80, H⟩ := H
  try dsimp only at H
  have A8 := Aside0.mk A80
  clear A80
  have HC9 := Aside0.mk H
  clear H
  go_enter Tryz.func3, Tryz.ntmps3
  go_upto_region 7 with (first | ((with_reducible refine gate_callee (f := 4) rfl ?_); refine goesL_ (some 33) rfl rfl Tryz.func4 Qh0_ rfl #[.slice A0 l0.length c0, .slice A1 l1.length c1] rfl Qb0_ ?_; (with_reducible refine (laws_b10Long.calls _ _ l0 _ _ l1 false _ ?side1 ?side2 ?side3 ?side4 A3.out).mono ?_); (case side1 => exact Qc_ HR0.out); (case side2 => exact HC0.out); (case side3 => exact Qc_ HR1.out); (case side4 => exact HC1.out); rintro e w' ⟨rfl, ⟨nd, rfl⟩⟩; refine ⟨_, rfl, ?_⟩) | ((with_reducible refine gate_callee (f := 5) rfl ?_); refine goesL_ (some 35) rfl rfl Tryz.func5 Qh0_ rfl #[.int .i64 2, .int .i64 4] rfl Qb0_ ?_; (with_reducible refine (impl_MakeBlockCode.calls k 2 4 t307 t308 t309 t312 t315 _ A5.out).mono ?_); rintro e w10 ⟨v310, v313, rfl, ho0, ho1, hb⟩; refine ⟨_, rfl, ?_⟩; have n0_ := Aside0.mk (Kd.R_lower ho0 (below_size Qa0_)); have n1_ := Aside0.mk (Kd.R_lower ho1 (below_size Qa0_)); have n2_ := Aside0.mk (below_step Qa0_ hb); clear HB; have HO311 := n0_; have HO314 := n1_; have HB := n2_; clear n0_ n1_ n2_; (try clear hb); (try clear hb2); (try clear hk); (try clear hi); (try clear ho0); (try clear ho1)) | ((with_reducible refine gate_dst (N := 5) rfl ?_); refine box_event ?hg (N := 5) ?hd (cs := #[.int .i64 0, .int .i64 0, .slice none 0 0, .slice none 0 0]) (t := 26) ?hr ?_; (case hd => rfl); (case hg => rfl); (case hr => exact Qg0_); intro gb316 hg w11 hbox hb; have n0_ := Aside0.mk (Kd.R_below (Qr_ HO311.out) hb); have n1_ := Aside0.mk (Kd.R_below (Qr_ HO314.out) hb); have n2_ := Aside0.mk (below_step Qa0_ hb); have n3_ := Aside0.mk (hbox); have n4_ := Aside0.mk ((Qp1_ : w.heap.size ≤ gb316)); have n5_ := Aside0.mk ((Qp1_ : w.heap.size ≤ gb316)); clear HO311; clear HO314; clear HB; have HO311 := n0_; have HO314 := n1_; have HB := n2_; have BK316 := n3_; have GW316 := n4_; have GE316 := n5_; clear n0_ n1_ n2_ n3_ n4_ n5_; clear hb hbox hg; have hcz12_0 : w11.cell? ⟨gb316, 0, none⟩ = some (.int .i64 0) := (blk_cell BK316.out 0).trans rfl; have hcz12_1 : w11.cell? ⟨gb316, 1, none⟩ = some (.int .i64 0) := (blk_cell BK316.out 1).trans rfl; have hcz12_2 : w11.cell? ⟨gb316, 2, none⟩ = some (.slice none 0 0) := (blk_cell BK316.out 2).trans rfl; have hcz12_3 : w11.cell? ⟨gb316, 3, none⟩ = some (.slice none 0 0) := (blk_cell BK316.out 3).trans rfl; have hfz12_0 := blk_frozen BK316.out 0; have hfz12_1 := blk_frozen BK316.out 1; have hfz12_2 := blk_frozen BK316.out 2; have hfz12_3 := blk_frozen BK316.out 3; obtain ⟨Ao13, co13, eo13⟩ := Kd.R_slice HO311.out; subst eo13; obtain ⟨Ao14, co14, eo14⟩ := Kd.R_slice HO314.out; subst eo14) | ((with_reducible refine gate_callee (f := 6) rfl ?_); refine goesL_ (some 40) rfl rfl Tryz.func6 Qh0_ rfl #[.slice A0 l0.length c0, .agg #[.int .i64 t307, .int .i64 t308, .slice Ao13 t309.length co13, .slice Ao14 t312.length co14]] rfl Qb0_ ?_; (with_reducible refine (spec_B10Data.calls k _ _ l0 t307 t308 _ _ t309 _ _ t312 t317 _ ?side1 ?side2 ?side3 ?side4 ?side5 ?side6 A6.out).mono ?_); (case side1 => exact Kd.C_below HR0.out (Qg_ GE316.out)); (case side2 => exact HC0.out); (case side3 => refine (Kd.R_reads' (e := 9) (base := w.heap.size) (ok := fun k_ => some k_ ≠ (.slice Ao14 t312.length co14 : Value).ownBlock) (n := t309.length) (c := co13) ?_).2.2; exact Qg1_); (case side4 => exact (Kd.R_reads' HO311.out).2.1); (case side5 => refine (Kd.R_reads' (e := 9) (base := w.heap.size) (ok := fun k_ => some k_ ≠ (.slice Ao13 t309.length co13 : Value).ownBlock) (n := t312.length) (c := co14) ?_).2.2; exact Qf1_); (case side6 => exact (Kd.R_reads' HO314.out).2.1); rintro e w15 ⟨v318, rfl, ho0, hb⟩; refine ⟨_, rfl, ?_⟩; have n0_ := Aside0.mk (Kd.R_below Qg1_ hb); have n1_ := Aside0.mk (Kd.R_below Qf1_ hb); have n2_ := Aside0.mk (Kd.R_lower ho0 (below_size (Qg_ GE316.out))); have n3_ := Aside0.mk (blk_below (g := gb316) (o := .cells #[.int .i64 t307, .int .i64 t308, .slice Ao13 t309.length co13, .slice Ao14 t312.length co14] 26 (0, 0)) (by (with_reducible repeat (first | refine blk_drewN ?_ _ | refine blk_drew ?_ | refine blk_alloc ?_ _)); refine blk_put (cs := #[.int .i64 t307, .int .i64 t308, .slice Ao13 t309.length co13, .slice none 0 0]) ?_ 3 _ rfl; (with_reducible repeat (first | refine blk_drewN ?_ _ | refine blk_drew ?_ | refine blk_alloc ?_ _)); refine blk_put (cs := #[.int .i64 t307, .int .i64 t308, .slice none 0 0, .slice none 0 0]) ?_ 2 _ rfl; (with_reducible repeat (first | refine blk_drewN ?_ _ | refine blk_drew ?_ | refine blk_alloc ?_ _)); refine blk_put (cs := #[.int .i64 t307, .int .i64 0, .slice none 0 0, .slice none 0 0]) ?_ 1 _ rfl; (with_reducible repeat (first | refine blk_drewN ?_ _ | refine blk_drew ?_ | refine blk_alloc ?_ _)); refine blk_put (cs := #[.int .i64 0, .int .i64 0, .slice none 0 0, .slice none 0 0]) ?_ 0 _ rfl; (with_reducible repeat (first | refine blk_drewN ?_ _ | refine blk_drew ?_ | refine blk_alloc ?_ _)); exact BK316.out) hb); have n4_ := Aside0.mk (below_step (Qg_ GE316.out) hb); clear HO311; clear HO314; clear BK316; clear HB; have HO311 := n0_; have HO314 := n1_; have HO319 := n2_; have BK316 := n3_; have HB := n4_; clear n0_ n1_ n2_ n3_ n4_; (try clear hb); (try clear hb2); (try clear hk); (try clear hi); (try clear ho0); obtain ⟨Ao16, co16, eo16⟩ := Kd.R_slice HO319.out; subst eo16) | ((with_reducible refine gate_callee (f := 7) rfl ?_); refine goesL_ (some 43) rfl rfl Tryz.func7 Qh0_ rfl #[.slice Ao16 t317.length co16] rfl Qb0_ ?_; (with_reducible refine (impl_ListText.calls k _ _ t317 t320 t321 _ ?side1 ?side2 ?tb A7.out).mono ?_); (case tb => exact Qw0_); (case side1 => exact Qc_ (Kd.R_reads' HO319.out).2.2); (case side2 => exact (Kd.R_reads' HO319.out).2.1); rintro e w17 ⟨rfl, hb⟩; refine ⟨_, rfl, ?_⟩; have n0_ := Aside0.mk (Kd.R_below (Qr_ HO311.out) hb); have n1_ := Aside0.mk (Kd.R_below (Qr_ HO314.out) hb); have n2_ := Aside0.mk (Kd.R_below (Qr_ HO319.out) hb); have n3_ := Aside0.mk (blk_below (g := gb316) (o := .cells #[.int .i64 t307, .int .i64 t308, .slice Ao13 t309.length co13, .slice Ao14 t312.length co14] 26 (0, 0)) (Qk_ BK316.out) hb); have n4_ := Aside0.mk (below_step (Qg_ GE316.out) hb); clear HO311; clear HO314; clear HO319; clear BK316; clear HB; have HO311 := n0_; have HO314 := n1_; have HO319 := n2_; have BK316 := n3_; have HB := n4_; clear n0_ n1_ n2_ n3_ n4_; (try clear hb); (try clear hb2); (try clear hk); (try clear hi); have hcz18_0 : w17.cell? ⟨gb316, 0, none⟩ = some (.int .i64 t307) := (blk_cell BK316.out 0).trans rfl; have hcz18_1 : w17.cell? ⟨gb316, 1, none⟩ = some (.int .i64 t308) := (blk_cell BK316.out 1).trans rfl; have hcz18_2 : w17.cell? ⟨gb316, 2, none⟩ = some (.slice Ao13 t309.length co13) := (blk_cell BK316.out 2).trans rfl; have hcz18_3 : w17.cell? ⟨gb316, 3, none⟩ = some (.slice Ao14 t312.length co14) := (blk_cell BK316.out 3).trans rfl; have hfz18_0 := blk_frozen BK316.out 0; have hfz18_1 := blk_frozen BK316.out 1; have hfz18_2 := blk_frozen BK316.out 2; have hfz18_3 := blk_frozen BK316.out 3) | ((with_reducible refine gate_callee (f := 8) rfl ?_); refine goesL_ (some 49) rfl rfl Tryz.func8 Qh0_ rfl #[.agg #[.int .i64 t307, .int .i64 t308, .slice Ao13 t309.length co13, .slice Ao14 t312.length co14], .int .i64 (-1), .slice Ao16 t317.length co16] rfl Qb0_ ?_; (with_reducible refine (impl_EncodeBlocks.calls k t307 t308 _ _ t309 _ _ t312 (-1) _ _ t317 t322 t323 t324 _ ?side1 ?side2 ?side3 ?side4 ?side5 ?side6 A8.out).mono ?_); (case side1 => exact Qc_ (Kd.R_reads' HO311.out).2.2); (case side2 => exact (Kd.R_reads' HO311.out).2.1); (case side3 => exact Qc_ (Kd.R_reads' HO314.out).2.2); (case side4 => exact (Kd.R_reads' HO314.out).2.1); (case side5 => exact Qc_ (Kd.R_reads' HO319.out).2.2); (case side6 => exact (Kd.R_reads' HO319.out).2.1); rintro e w19 ⟨rfl, hb⟩; refine ⟨_, rfl, ?_⟩; have n0_ := Aside0.mk (Kd.R_below (Qr_ HO311.out) hb); have n1_ := Aside0.mk (Kd.R_below (Qr_ HO314.out) hb); have n2_ := Aside0.mk (Kd.R_below (Qr_ HO319.out) hb); have n3_ := Aside0.mk (blk_below (g := gb316) (o := .cells #[.int .i64 t307, .int .i64 t308, .slice Ao13 t309.length co13, .slice Ao14 t312.length co14] 26 (0, 0)) (Qk_ BK316.out) hb); have n4_ := Aside0.mk (below_step (Qg_ GE316.out) hb); clear HO311; clear HO314; clear HO319; clear BK316; clear HB; have HO311 := n0_; have HO314 := n1_; have HO319 := n2_; have BK316 := n3_; have HB := n4_; clear n0_ n1_ n2_ n3_ n4_; (try clear hb); (try clear hb2); (try clear hk); (try clear hi)))
  (try simp only [Act.put, List.setIfInBounds_toArray, List.set_cons_zero, List.set_cons_succ])
  go_cut [62] (fun v62 wc => ∃ (kq : Nat) (x62_8 : Bool), v62 = .bool x62_8 ∧ Aside0 (laws_FnTop.j0 kq l1 t320 t322 t323 x62_8 = some r) ∧ Aside0 (kq ≤ k) ∧ Aside0 (Kd.R Kd.string 9 wc w.heap.size (fun k_ => some k_ ≠ ((.slice Ao14 t312.length co14) : Value).ownBlock) (.slice Ao13 t309.length co13) t309) ∧ Aside0 (Kd.R Kd.string 9 wc w.heap.size (fun k_ => some k_ ≠ ((.slice Ao13 t309.length co13) : Value).ownBlock) (.slice Ao14 t312.length co14) t312) ∧ Aside0 (wc.heap[gb316]? = some (.cells #[.int .i64 t307, .int .i64 t308, (.slice Ao13 t309.length co13), (.slice Ao14 t312.length co14)] 26 (0, 0))) ∧ Aside0 (Below w.heap.size w wc))
  case first =>
   have H := HC9.out
   clear HC9
   by_cases c20 : t315 = true
   ·subst c20
    rw [if_pos rfl] at H
    have H1 := H
    clear H
    have H := H1
    clear H1
    by_cases c21 : t321 = true
    ·subst c21
     rw [if_pos rfl] at H
     have H1 := H
     clear H
     have H := H1
     clear H1
     have H' := Aside0.mk H
     clear H
     go_wp2
     go_meet
     case rel => exact ⟨_, (!t324), Qc0_, H', ⟨Qe1_⟩, ⟨Qr_ HO311.out⟩, ⟨Qr_ HO314.out⟩, ⟨Qk_ BK316.out⟩, ⟨Qg_ GE316.out⟩⟩
    ·replace c21 := Bool.eq_false_iff.mpr c21
     subst c21
     rw [if_neg (show ¬ (false = true) by decide)] at H
     have H1 := H
     clear H
     have H := H1
     clear H1
     have H' := Aside0.mk H
     clear H
     go_wp2
     go_meet
     case rel => exact ⟨_, (true), Qc0_, H', ⟨Qe1_⟩, ⟨Qr_ HO311.out⟩, ⟨Qr_ HO314.out⟩, ⟨Qk_ BK316.out⟩, ⟨Qg_ GE316.out⟩⟩
   ·replace c20 := Bool.eq_false_iff.mpr c20
    subst c20
    rw [if_neg (show ¬ (false = true) by decide)] at H
    have H1 := H
    clear H
    have H := H1
    clear H1
    have H' := Aside0.mk H
    clear H
    go_wp2
    go_meet
    case rel => exact ⟨_, (true), Qc0_, H', ⟨Qe1_⟩, ⟨Qr_ HO311.out⟩, ⟨Qr_ HO314.out⟩, ⟨Qk_ BK316.out⟩, ⟨Qg_ GE316.out⟩⟩
  case rest => as_aux_lemma =>
   clear HC9
   try clear c1
   try clear c2
   try clear p2
   try clear c3
   try clear c4
   try clear c5
   try clear c6
   try clear c7
   try clear c8
   try clear c20
   try clear c21
   try clear hcz12_0
   try clear hcz12_1
   try clear hcz12_2
   try clear hcz12_3
   try clear hcz18_0
   try clear hcz18_1
   try clear hcz18_2
   try clear hcz18_3
   try clear hfz12_0
   try clear hfz12_1
   try clear hfz12_2
   try clear hfz12_3
   try clear hfz18_0
   try clear hfz18_1
   try clear hfz18_2
   try clear hfz18_3
   obtain ⟨kq, x62_8, rfl, HA, HJ8, HO_317002, HO_317003, BK316, HB⟩ := hcut
   cases kq with
   | zero => exact absurd HA.out (by simp [laws_FnTop.j0])
   | succ kj8 =>
    have H := HA.out
    clear HA
    simp only [laws_FnTop.j0] at H
    by_cases c22 : x62_8 = true
    ·subst c22
     rw [if_pos rfl] at H
     have H1 := H
     clear H
     have H := H1
     clear H1
     obtain rfl := Option.some.inj H
     go_wp2
     go_ret
     exact ⟨Qd0_, Qg_ GE316.out⟩
    ·replace c22 := Bool.eq_false_iff.mpr c22
     subst c22
     rw [if_neg (show ¬ (false = true) by decide)] at H
     have H1 := H
     clear H
     have H := H1
     clear H1
     have HC23 := Aside0.mk H
     clear H
     go_upto_if 68 with (fail)
     go_cut [14] (fun v14 wc => ∃ (kq : Nat) (x14_22 : ByteArray), v14 = .string x14_22 ∧ Aside0 (laws_FnTop.j1 kq l1 t320 t322 t323 (wrap64 ((t322.size : Int) / 4)) x14_22 = some r) ∧ Aside0 (kq ≤ kj8) ∧ Aside0 (Kd.R Kd.string 9 wc w.heap.size (fun k_ => some k_ ≠ ((.slice Ao14 t312.length co14) : Value).ownBlock) (.slice Ao13 t309.length co13) t309) ∧ Aside0 (Kd.R Kd.string 9 wc w.heap.size (fun k_ => some k_ ≠ ((.slice Ao13 t309.length co13) : Value).ownBlock) (.slice Ao14 t312.length co14) t312) ∧ Aside0 (wc.heap[gb316]? = some (.cells #[.int .i64 t307, .int .i64 t308, (.slice Ao13 t309.length co13), (.slice Ao14 t312.length co14)] 26 (0, 0))) ∧ Aside0 (Below w.heap.size w wc))
     case first =>
      have H := HC23.out
      clear HC23
      by_cases c24 : t322.toList = ([] : List UInt8)
      ·rw [if_pos c24] at H
       have c24b0 := beq_iff_eq.mpr c24
       have c24b1 := bne_eq_false_iff_eq.mpr c24
       clear c24
       (first | rw [c24b0] | (simp only [i64_w, i32_w]; rw [c24b0]) | rw [show t322.toList.isEmpty = (t322.toList == ([] : List UInt8)) from by cases t322.toList <;> rfl, c24b0] | skip)
       have H' := Aside0.mk H
       clear H
       go_wp2
       go_meet
       case rel => exact ⟨_, ((⟨#[110, 111, 110, 101]⟩ : ByteArray)), Qc0_, H', ⟨by have := HJ8.out; first | omega | exact Nat.le_refl _⟩, ⟨Qr_ HO_317002.out⟩, ⟨Qr_ HO_317003.out⟩, ⟨Qk_ BK316.out⟩, ⟨Qg_ GE316.out⟩⟩
      ·rw [if_neg c24] at H
       have c24b0 := beq_eq_false_iff_ne.mpr c24
       have c24b1 := bne_iff_ne.mpr c24
       (first | rw [c24b0] | (simp only [i64_w, i32_w]; rw [c24b0]) | rw [show t322.toList.isEmpty = (t322.toList == ([] : List UInt8)) from by cases t322.toList <;> rfl, c24b0] | skip)
       have H' := Aside0.mk H
       clear H
       go_wp2
       go_meet
       case rel => exact ⟨_, (t322), Qc0_, H', ⟨by have := HJ8.out; first | omega | exact Nat.le_refl _⟩, ⟨Qr_ HO_317002.out⟩, ⟨Qr_ HO_317003.out⟩, ⟨Qk_ BK316.out⟩, ⟨Qg_ GE316.out⟩⟩
     case rest => as_aux_lemma =>
      clear HC23
      try clear c1
      try clear c2
      try clear p2
      try clear c3
      try clear c4
      try clear c5
      try clear c6
      try clear p6
      try clear c7
      try clear c8
      try clear c20
      try clear c21
      try clear c22
      try clear c24
      try clear c24b0
      try clear c24b1
      try clear hcz12_0
      try clear hcz12_1
      try clear hcz12_2
      try clear hcz12_3
      try clear hcz18_0
      try clear hcz18_1
      try clear hcz18_2
      try clear hcz18_3
      try clear hfz12_0
      try clear hfz12_1
      try clear hfz12_2
      try clear hfz12_3
      try clear hfz18_0
      try clear hfz18_1
      try clear hfz18_2
      try clear hfz18_3
      try clear p2
      obtain ⟨kq, x14_22, rfl, HA, HJ22, HO_317002, HO_317003, BK316, HB⟩ := hcut
      cases kq with
      | zero => exact absurd HA.out (by simp [laws_FnTop.j1])
      | succ kj22 =>
       have H := HA.out
       clear HA
       simp only [laws_FnTop.j1] at H
       replace H := Option.bind_eq_some_iff.mp H
       obtain ⟨t325, A250, H⟩ := H
       try dsimp only at H
       have A25 := Aside0.mk A250
       clear A250
       by_cases c26 : t325.size + 1 ≤ 9223372036854775807
       ·rw [if_pos c26] at H
        have c26b0 := eq_true c26
        have c26b1 := decide_eq_true c26
        try have c26b2 := eq_false (Nat.not_lt.2 c26)
        by_cases c27 : (t325 ++ (⟨#[10]⟩ : ByteArray)).size + x14_22.size ≤ 9223372036854775807
        ·rw [if_pos c27] at H
         have c27b0 := eq_true c27
         have c27b1 := decide_eq_true c27
         try have c27b2 := eq_false (Nat.not_lt.2 c27)
         try have c27b4 : (9223372036854775807 < (t325.size + 1) + x14_22.size) = False := eq_false (Nat.not_lt.2 (by have q_ := c27; simp only [ByteArray.size_append] at q_; exact q_))
         by_cases c28 : ((t325 ++ (⟨#[10]⟩ : ByteArray)) ++ x14_22).size + 1 ≤ 9223372036854775807
         ·rw [if_pos c28] at H
          have c28b0 := eq_true c28
          have c28b1 := decide_eq_true c28
          try have c28b2 := eq_false (Nat.not_lt.2 c28)
          try have c28b4 : (9223372036854775807 < ((t325.size + 1) + x14_22.size) + 1) = False := eq_false (Nat.not_lt.2 (by have q_ := c28; simp only [ByteArray.size_append] at q_; exact q_))
          by_cases c29 : (((t325 ++ (⟨#[10]⟩ : ByteArray)) ++ x14_22) ++ (⟨#[10]⟩ : ByteArray)).size + t320.size ≤ 9223372036854775807
          ·rw [if_pos c29] at H
           have c29b0 := eq_true c29
           have c29b1 := decide_eq_true c29
           try have c29b2 := eq_false (Nat.not_lt.2 c29)
           try have c29b4 : (9223372036854775807 < (((t325.size + 1) + x14_22.size) + 1) + t320.size) = False := eq_false (Nat.not_lt.2 (by have q_ := c29; simp only [ByteArray.size_append] at q_; exact q_))
           by_cases c30 : ((((t325 ++ (⟨#[10]⟩ : ByteArray)) ++ x14_22) ++ (⟨#[10]⟩ : ByteArray)) ++ t320).size + 6 ≤ 9223372036854775807
           ·rw [if_pos c30] at H
            have c30b0 := eq_true c30
            have c30b1 := decide_eq_true c30
            try have c30b2 := eq_false (Nat.not_lt.2 c30)
            try have c30b4 : (9223372036854775807 < ((((t325.size + 1) + x14_22.size) + 1) + t320.size) + 6) = False := eq_false (Nat.not_lt.2 (by have q_ := c30; simp only [ByteArray.size_append] at q_; exact q_))
            by_cases c31 : 16 + t320.size ≤ 9223372036854775807
            ·rw [if_pos c31] at H
             have c31b0 := eq_true c31
             have c31b1 := decide_eq_true c31
             try have c31b2 := eq_false (Nat.not_lt.2 c31)
             by_cases c32 : ((⟨#[98, 108, 111, 99, 107, 115, 32, 120, 32, 50, 32, 52, 32, 45, 49, 32]⟩ : ByteArray) ++ t320).size + 22 ≤ 9223372036854775807
             ·rw [if_pos c32] at H
              have c32b0 := eq_true c32
              have c32b1 := decide_eq_true c32
              try have c32b2 := eq_false (Nat.not_lt.2 c32)
              try have c32b4 : (9223372036854775807 < (16 + t320.size) + 22) = False := eq_false (Nat.not_lt.2 (by have q_ := c32; simp only [ByteArray.size_append] at q_; exact q_))
              have HC33 := Aside0.mk H
              clear H
              go_upto_if 82 with (first | ((with_reducible refine gate_callee (f := 9) rfl ?_); refine goesL_ (some 70) rfl rfl Tryz.func9 Qh0_ rfl #[.int .i64 t323] rfl Qb0_ ?_; (with_reducible refine (impl_Decimal.calls t323 t325 _ ?tb A25.out).mono ?_); (case tb => exact Qw0_); rintro e w34 ⟨rfl, hb⟩; refine ⟨_, rfl, ?_⟩; have n0_ := Aside0.mk (Kd.R_below (Qr_ HO_317002.out) hb); have n1_ := Aside0.mk (Kd.R_below (Qr_ HO_317003.out) hb); have n2_ := Aside0.mk (blk_below (g := gb316) (o := .cells #[.int .i64 t307, .int .i64 t308, .slice Ao13 t309.length co13, .slice Ao14 t312.length co14] 26 (0, 0)) (Qk_ BK316.out) hb); have n3_ := Aside0.mk (below_step (Qg_ GE316.out) hb); clear HO_317002; clear HO_317003; clear BK316; clear HB; have HO_317002 := n0_; have HO_317003 := n1_; have BK316 := n2_; have HB := n3_; clear n0_ n1_ n2_ n3_; (try clear hb); (try clear hb2); (try clear hk); (try clear hi)))
              (try simp only [Act.put, List.setIfInBounds_toArray, List.set_cons_zero, List.set_cons_succ])
              go_cut [15, 16] (fun v15 v16 wc => ∃ (kq : Nat) (x15_32 : ByteArray) (x16_32 : ByteArray), v15 = .string x15_32 ∧ v16 = .string x16_32 ∧ Aside0 (laws_FnTop.j3 kq l1 t322 (wrap64 ((t322.size : Int) / 4)) x15_32 x16_32 = some r) ∧ Aside0 (kq ≤ kj22) ∧ Aside0 (Kd.R Kd.string 9 wc w.heap.size (fun k_ => some k_ ≠ ((.slice Ao14 t312.length co14) : Value).ownBlock) (.slice Ao13 t309.length co13) t309) ∧ Aside0 (Kd.R Kd.string 9 wc w.heap.size (fun k_ => some k_ ≠ ((.slice Ao13 t309.length co13) : Value).ownBlock) (.slice Ao14 t312.length co14) t312) ∧ Aside0 (wc.heap[gb316]? = some (.cells #[.int .i64 t307, .int .i64 t308, (.slice Ao13 t309.length co13), (.slice Ao14 t312.length co14)] 26 (0, 0))) ∧ Aside0 (Below w.heap.size w wc))
              case first =>
               have H := HC33.out
               clear HC33
               by_cases c35 : (wrap64 ((t322.size : Int) / 4)) > 0
               ·rw [if_pos c35] at H
                have c35b0 := decide_eq_true c35
                clear c35
                (first | rw [c35b0] | (simp only [i64_w, i32_w]; rw [c35b0]) | skip)
                replace H := Option.bind_eq_some_iff.mp H
                obtain ⟨⟨t326, t327⟩, A360, H⟩ := H
                try dsimp only at H
                have A36 := Aside0.mk A360
                clear A360
                replace H := Option.bind_eq_some_iff.mp H
                obtain ⟨⟨t328, t329⟩, A370, H⟩ := H
                try dsimp only at H
                have A37 := Aside0.mk A370
                clear A370
                have HC38 := Aside0.mk H
                clear H
                go_upto_region 18 with (first | ((with_reducible refine gate_callee (f := 10) rfl ?_); refine goesL_ (some 86) rfl rfl Tryz.func10 Qh0_ rfl #[.int .i64 (wrap64 ((t322.size : Int) / 4)), .int .i64 4, .string t322] rfl Qb0_ ?_; (with_reducible refine (impl_BlockInterleave.calls kj22 (wrap64 ((t322.size : Int) / 4)) 4 t322 t326 t327 _ A36.out).mono ?_); rintro e w39 ⟨rfl, hb⟩; refine ⟨_, rfl, ?_⟩; have n0_ := Aside0.mk (Kd.R_below (Qr_ HO_317002.out) hb); have n1_ := Aside0.mk (Kd.R_below (Qr_ HO_317003.out) hb); have n2_ := Aside0.mk (blk_below (g := gb316) (o := .cells #[.int .i64 t307, .int .i64 t308, .slice Ao13 t309.length co13, .slice Ao14 t312.length co14] 26 (0, 0)) (Qk_ BK316.out) hb); have n3_ := Aside0.mk (below_step (Qg_ GE316.out) hb); clear HO_317002; clear HO_317003; clear BK316; clear HB; have HO_317002 := n0_; have HO_317003 := n1_; have BK316 := n2_; have HB := n3_; clear n0_ n1_ n2_ n3_; (try clear hb); (try clear hb2); (try clear hk); (try clear hi)) | ((with_reducible refine gate_callee (f := 11) rfl ?_); refine goesL_ (some 92) rfl rfl Tryz.func11 Qh0_ rfl #[.int .i64 (wrap64 ((t322.size : Int) / 4)), .int .i64 4, .string t326] rfl Qb0_ ?_; (with_reducible refine (impl_BlockDeinterleave.calls kj22 (wrap64 ((t322.size : Int) / 4)) 4 t326 t328 t329 _ A37.out).mono ?_); rintro e w40 ⟨rfl, hb⟩; refine ⟨_, rfl, ?_⟩; have n0_ := Aside0.mk (Kd.R_below (Qr_ HO_317002.out) hb); have n1_ := Aside0.mk (Kd.R_below (Qr_ HO_317003.out) hb); have n2_ := Aside0.mk (blk_below (g := gb316) (o := .cells #[.int .i64 t307, .int .i64 t308, .slice Ao13 t309.length co13, .slice Ao14 t312.length co14] 26 (0, 0)) (Qk_ BK316.out) hb); have n3_ := Aside0.mk (below_step (Qg_ GE316.out) hb); clear HO_317002; clear HO_317003; clear BK316; clear HB; have HO_317002 := n0_; have HO_317003 := n1_; have BK316 := n2_; have HB := n3_; clear n0_ n1_ n2_ n3_; (try clear hb); (try clear hb2); (try clear hk); (try clear hi)))
                (try simp only [Act.put, List.setIfInBounds_toArray, List.set_cons_zero, List.set_cons_succ])
                go_cut [105] (fun v105 wc => ∃ (kq : Nat) (x105_37 : Bool), v105 = .bool x105_37 ∧ Aside0 (laws_FnTop.j2 kq l1 t322 (wrap64 ((t322.size : Int) / 4)) (((((t325 ++ (⟨#[10]⟩ : ByteArray)) ++ x14_22) ++ (⟨#[10]⟩ : ByteArray)) ++ t320) ++ (⟨#[32, 110, 111, 110, 101, 10]⟩ : ByteArray)) (((⟨#[98, 108, 111, 99, 107, 115, 32, 120, 32, 50, 32, 52, 32, 45, 49, 32]⟩ : ByteArray) ++ t320) ++ (⟨#[10, 115, 104, 111, 119, 32, 120, 10, 100, 97, 116, 97, 32, 120, 32, 50, 32, 52, 32, 45, 49, 10]⟩ : ByteArray)) t326 x105_37 = some r) ∧ Aside0 (kq ≤ kj22) ∧ Aside0 (Kd.R Kd.string 9 wc w.heap.size (fun k_ => some k_ ≠ ((.slice Ao14 t312.length co14) : Value).ownBlock) (.slice Ao13 t309.length co13) t309) ∧ Aside0 (Kd.R Kd.string 9 wc w.heap.size (fun k_ => some k_ ≠ ((.slice Ao13 t309.length co13) : Value).ownBlock) (.slice Ao14 t312.length co14) t312) ∧ Aside0 (wc.heap[gb316]? = some (.cells #[.int .i64 t307, .int .i64 t308, (.slice Ao13 t309.length co13), (.slice Ao14 t312.length co14)] 26 (0, 0))) ∧ Aside0 (Below w.heap.size w wc))
                case first =>
                 have H := HC38.out
                 clear HC38
                 by_cases c41 : t327 = true
                 ·subst c41
                  rw [if_pos rfl] at H
                  have H1 := H
                  clear H
                  have H := H1
                  clear H1
                  by_cases c42 : t329 = true
                  ·subst c42
                   rw [if_pos rfl] at H
                   have H1 := H
                   clear H
                   have H := H1
                   clear H1
                   have H' := Aside0.mk H
                   clear H
                   go_wp2
                   go_meet
                   case rel => exact ⟨_, ((t328.toList != t322.toList)), Qc0_, H', ⟨by have := HJ8.out; have := HJ22.out; first | omega | exact Nat.le_refl _⟩, ⟨Qr_ HO_317002.out⟩, ⟨Qr_ HO_317003.out⟩, ⟨Qk_ BK316.out⟩, ⟨Qg_ GE316.out⟩⟩
                  ·replace c42 := Bool.eq_false_iff.mpr c42
                   subst c42
                   rw [if_neg (show ¬ (false = true) by decide)] at H
                   have H1 := H
                   clear H
                   have H := H1
                   clear H1
                   have H' := Aside0.mk H
                   clear H
                   go_wp2
                   go_meet
                   case rel => exact ⟨_, (true), Qc0_, H', ⟨by have := HJ8.out; have := HJ22.out; first | omega | exact Nat.le_refl _⟩, ⟨Qr_ HO_317002.out⟩, ⟨Qr_ HO_317003.out⟩, ⟨Qk_ BK316.out⟩, ⟨Qg_ GE316.out⟩⟩
                 ·replace c41 := Bool.eq_false_iff.mpr c41
                  subst c41
                  rw [if_neg (show ¬ (false = true) by decide)] at H
                  have H1 := H
                  clear H
                  have H := H1
                  clear H1
                  have H' := Aside0.mk H
                  clear H
                  go_wp2
                  go_meet
                  case rel => exact ⟨_, (true), Qc0_, H', ⟨by have := HJ8.out; have := HJ22.out; first | omega | exact Nat.le_refl _⟩, ⟨Qr_ HO_317002.out⟩, ⟨Qr_ HO_317003.out⟩, ⟨Qk_ BK316.out⟩, ⟨Qg_ GE316.out⟩⟩
                case rest => as_aux_lemma =>
                 clear HC38
                 try clear c1
                 try clear c2
                 try clear p2
                 try clear c3
                 try clear c4
                 try clear c5
                 try clear c6
                 try clear p6
                 try clear c7
                 try clear c8
                 try clear c9
                 try clear c10
                 try clear c11
                 try clear c20
                 try clear c21
                 try clear c22
                 try clear c24
                 try clear c24b0
                 try clear c24b1
                 try clear c26
                 try clear c26b0
                 try clear c26b1
                 try clear c26b2
                 try clear c27
                 try clear c27b0
                 try clear c27b1
                 try clear c27b2
                 try clear c28
                 try clear c28b0
                 try clear c28b1
                 try clear c28b2
                 try clear c29
                 try clear c29b0
                 try clear c29b1
                 try clear c29b2
                 try clear c30
                 try clear c30b0
                 try clear c30b1
                 try clear c30b2
                 try clear c31
                 try clear c31b0
                 try clear c31b1
                 try clear c31b2
                 try clear c32
                 try clear c32b0
                 try clear c32b1
                 try clear c32b2
                 try clear c35
                 try clear c35b0
                 try clear c41
                 try clear c42
                 try clear hcz12_0
                 try clear hcz12_1
                 try clear hcz12_2
                 try clear hcz12_3
                 try clear hcz18_0
                 try clear hcz18_1
                 try clear hcz18_2
                 try clear hcz18_3
                 try clear hfz12_0
                 try clear hfz12_1
                 try clear hfz12_2
                 try clear hfz12_3
                 try clear hfz18_0
                 try clear hfz18_1
                 try clear hfz18_2
                 try clear hfz18_3
                 try clear p2
                 try clear p6
                 obtain ⟨kq, x105_37, rfl, HA, HJ37, HO_317002, HO_317003, BK316, HB⟩ := hcut
                 cases kq with
                 | zero => exact absurd HA.out (by simp [laws_FnTop.j2])
                 | succ kj37 =>
                  have H := HA.out
                  clear HA
                  simp only [laws_FnTop.j2] at H
                  by_cases c43 : x105_37 = true
                  ·subst c43
                   rw [if_pos rfl] at H
                   have H1 := H
                   clear H
                   have H := H1
                   clear H1
                   obtain rfl := Option.some.inj H
                   go_wp2
                   go_ret
                   exact ⟨Qd0_, Qg_ GE316.out⟩
                  ·replace c43 := Bool.eq_false_iff.mpr c43
                   subst c43
                   rw [if_neg (show ¬ (false = true) by decide)] at H
                   have H1 := H
                   clear H
                   have H := H1
                   clear H1
                   replace H := Option.bind_eq_some_iff.mp H
                   obtain ⟨t330, A440, H⟩ := H
                   try dsimp only at H
                   have A44 := Aside0.mk A440
                   clear A440
                   by_cases c45 : 8 + t330.size ≤ 9223372036854775807
                   ·rw [if_pos c45] at H
                    have c45b0 := eq_true c45
                    have c45b1 := decide_eq_true c45
                    try have c45b2 := eq_false (Nat.not_lt.2 c45)
                    by_cases c46 : ((⟨#[108, 97, 121, 32, 121, 32, 120, 32]⟩ : ByteArray) ++ t330).size + 20 ≤ 9223372036854775807
                    ·rw [if_pos c46] at H
                     have c46b0 := eq_true c46
                     have c46b1 := decide_eq_true c46
                     try have c46b2 := eq_false (Nat.not_lt.2 c46)
                     try have c46b4 : (9223372036854775807 < (8 + t330.size) + 20) = False := eq_false (Nat.not_lt.2 (by have q_ := c46; simp only [ByteArray.size_append] at q_; exact q_))
                     replace H := Option.bind_eq_some_iff.mp H
                     obtain ⟨t331, A470, H⟩ := H
                     try dsimp only at H
                     have A47 := Aside0.mk A470
                     clear A470
                     by_cases c48 : (((⟨#[108, 97, 121, 32, 121, 32, 120, 32]⟩ : ByteArray) ++ t330) ++ (⟨#[32, 52, 10, 115, 104, 111, 119, 32, 121, 10, 117, 110, 108, 97, 121, 32, 121, 32, 121, 32]⟩ : ByteArray)).size + t331.size ≤ 9223372036854775807
                     ·rw [if_pos c48] at H
                      have c48b0 := eq_true c48
                      have c48b1 := decide_eq_true c48
                      try have c48b2 := eq_false (Nat.not_lt.2 c48)
                      try have c48b4 : (9223372036854775807 < ((8 + t330.size) + 20) + t331.size) = False := eq_false (Nat.not_lt.2 (by have q_ := c48; simp only [ByteArray.size_append] at q_; exact q_))
                      by_cases c49 : ((((⟨#[108, 97, 121, 32, 121, 32, 120, 32]⟩ : ByteArray) ++ t330) ++ (⟨#[32, 52, 10, 115, 104, 111, 119, 32, 121, 10, 117, 110, 108, 97, 121, 32, 121, 32, 121, 32]⟩ : ByteArray)) ++ t331).size + 10 ≤ 9223372036854775807
                      ·rw [if_pos c49] at H
                       have c49b0 := eq_true c49
                       have c49b1 := decide_eq_true c49
                       try have c49b2 := eq_false (Nat.not_lt.2 c49)
                       try have c49b4 : (9223372036854775807 < (((8 + t330.size) + 20) + t331.size) + 10) = False := eq_false (Nat.not_lt.2 (by have q_ := c49; simp only [ByteArray.size_append] at q_; exact q_))
                       by_cases c50 : (((⟨#[98, 108, 111, 99, 107, 115, 32, 120, 32, 50, 32, 52, 32, 45, 49, 32]⟩ : ByteArray) ++ t320) ++ (⟨#[10, 115, 104, 111, 119, 32, 120, 10, 100, 97, 116, 97, 32, 120, 32, 50, 32, 52, 32, 45, 49, 10]⟩ : ByteArray)).size + (((((⟨#[108, 97, 121, 32, 121, 32, 120, 32]⟩ : ByteArray) ++ t330) ++ (⟨#[32, 52, 10, 115, 104, 111, 119, 32, 121, 10, 117, 110, 108, 97, 121, 32, 121, 32, 121, 32]⟩ : ByteArray)) ++ t331) ++ (⟨#[32, 52, 10, 115, 104, 111, 119, 32, 121, 10]⟩ : ByteArray)).size ≤ 9223372036854775807
                       ·rw [if_pos c50] at H
                        have c50b0 := eq_true c50
                        have c50b1 := decide_eq_true c50
                        try have c50b2 := eq_false (Nat.not_lt.2 c50)
                        try have c50b4 : (9223372036854775807 < ((16 + t320.size) + 22) + ((((8 + t330.size) + 20) + t331.size) + 10)) = False := eq_false (Nat.not_lt.2 (by have q_ := c50; simp only [ByteArray.size_append] at q_; exact q_))
                        by_cases c51 : 3 + t326.size ≤ 9223372036854775807
                        ·rw [if_pos c51] at H
                         have c51b0 := eq_true c51
                         have c51b1 := decide_eq_true c51
                         try have c51b2 := eq_false (Nat.not_lt.2 c51)
                         by_cases c52 : ((⟨#[111, 107, 10]⟩ : ByteArray) ++ t326).size + 4 ≤ 9223372036854775807
                         ·rw [if_pos c52] at H
                          have c52b0 := eq_true c52
                          have c52b1 := decide_eq_true c52
                          try have c52b2 := eq_false (Nat.not_lt.2 c52)
                          try have c52b4 : (9223372036854775807 < (3 + t326.size) + 4) = False := eq_false (Nat.not_lt.2 (by have q_ := c52; simp only [ByteArray.size_append] at q_; exact q_))
                          by_cases c53 : (((⟨#[111, 107, 10]⟩ : ByteArray) ++ t326) ++ (⟨#[10, 111, 107, 10]⟩ : ByteArray)).size + t322.size ≤ 9223372036854775807
                          ·rw [if_pos c53] at H
                           have c53b0 := eq_true c53
                           have c53b1 := decide_eq_true c53
                           try have c53b2 := eq_false (Nat.not_lt.2 c53)
                           try have c53b4 : (9223372036854775807 < ((3 + t326.size) + 4) + t322.size) = False := eq_false (Nat.not_lt.2 (by have q_ := c53; simp only [ByteArray.size_append] at q_; exact q_))
                           by_cases c54 : ((((⟨#[111, 107, 10]⟩ : ByteArray) ++ t326) ++ (⟨#[10, 111, 107, 10]⟩ : ByteArray)) ++ t322).size + 1 ≤ 9223372036854775807
                           ·rw [if_pos c54] at H
                            have c54b0 := eq_true c54
                            have c54b1 := decide_eq_true c54
                            try have c54b2 := eq_false (Nat.not_lt.2 c54)
                            try have c54b4 : (9223372036854775807 < (((3 + t326.size) + 4) + t322.size) + 1) = False := eq_false (Nat.not_lt.2 (by have q_ := c54; simp only [ByteArray.size_append] at q_; exact q_))
                            by_cases c55 : (((((t325 ++ (⟨#[10]⟩ : ByteArray)) ++ x14_22) ++ (⟨#[10]⟩ : ByteArray)) ++ t320) ++ (⟨#[32, 110, 111, 110, 101, 10]⟩ : ByteArray)).size + (((((⟨#[111, 107, 10]⟩ : ByteArray) ++ t326) ++ (⟨#[10, 111, 107, 10]⟩ : ByteArray)) ++ t322) ++ (⟨#[10]⟩ : ByteArray)).size ≤ 9223372036854775807
                            ·rw [if_pos c55] at H
                             have c55b0 := eq_true c55
                             have c55b1 := decide_eq_true c55
                             try have c55b2 := eq_false (Nat.not_lt.2 c55)
                             try have c55b4 : (9223372036854775807 < (((((t325.size + 1) + x14_22.size) + 1) + t320.size) + 6) + ((((3 + t326.size) + 4) + t322.size) + 1)) = False := eq_false (Nat.not_lt.2 (by have q_ := c55; simp only [ByteArray.size_append] at q_; exact q_))
                             have H' := Aside0.mk H
                             clear H
                             go_wp2_with (first | ((with_reducible refine gate_callee (f := 9) rfl ?_); refine goesL_ (some 108) rfl rfl Tryz.func9 Qh0_ rfl #[.int .i64 (wrap64 ((t322.size : Int) / 4))] rfl Qb0_ ?_; (with_reducible refine (impl_Decimal.calls (wrap64 ((t322.size : Int) / 4)) t330 _ ?tb A44.out).mono ?_); (case tb => exact Qw0_); rintro e w56 ⟨rfl, hb⟩; refine ⟨_, rfl, ?_⟩; have n0_ := Aside0.mk (Kd.R_below (Qr_ HO_317002.out) hb); have n1_ := Aside0.mk (Kd.R_below (Qr_ HO_317003.out) hb); have n2_ := Aside0.mk (blk_below (g := gb316) (o := .cells #[.int .i64 t307, .int .i64 t308, .slice Ao13 t309.length co13, .slice Ao14 t312.length co14] 26 (0, 0)) (Qk_ BK316.out) hb); have n3_ := Aside0.mk (below_step (Qg_ GE316.out) hb); clear HO_317002; clear HO_317003; clear BK316; clear HB; have HO_317002 := n0_; have HO_317003 := n1_; have BK316 := n2_; have HB := n3_; clear n0_ n1_ n2_ n3_; (try clear hb); (try clear hb2); (try clear hk); (try clear hi)) | ((with_reducible refine gate_callee (f := 9) rfl ?_); refine goesL_ (some 112) rfl rfl Tryz.func9 Qh0_ rfl #[.int .i64 (wrap64 ((t322.size : Int) / 4))] rfl Qb0_ ?_; (with_reducible refine (impl_Decimal.calls (wrap64 ((t322.size : Int) / 4)) t331 _ ?tb A47.out).mono ?_); (case tb => exact Qw0_); rintro e w57 ⟨rfl, hb⟩; refine ⟨_, rfl, ?_⟩; have n0_ := Aside0.mk (Kd.R_below (Qr_ HO_317002.out) hb); have n1_ := Aside0.mk (Kd.R_below (Qr_ HO_317003.out) hb); have n2_ := Aside0.mk (blk_below (g := gb316) (o := .cells #[.int .i64 t307, .int .i64 t308, .slice Ao13 t309.length co13, .slice Ao14 t312.length co14] 26 (0, 0)) (Qk_ BK316.out) hb); have n3_ := Aside0.mk (below_step (Qg_ GE316.out) hb); clear HO_317002; clear HO_317003; clear BK316; clear HB; have HO_317002 := n0_; have HO_317003 := n1_; have BK316 := n2_; have HB := n3_; clear n0_ n1_ n2_ n3_; (try clear hb); (try clear hb2); (try clear hk); (try clear hi)))
                             go_meet
                             case rel => exact ⟨_, ((((((t325 ++ (⟨#[10]⟩ : ByteArray)) ++ x14_22) ++ (⟨#[10]⟩ : ByteArray)) ++ t320) ++ (⟨#[32, 110, 111, 110, 101, 10]⟩ : ByteArray)) ++ (((((⟨#[111, 107, 10]⟩ : ByteArray) ++ t326) ++ (⟨#[10, 111, 107, 10]⟩ : ByteArray)) ++ t322) ++ (⟨#[10]⟩ : ByteArray))), ((((⟨#[98, 108, 111, 99, 107, 115, 32, 120, 32, 50, 32, 52, 32, 45, 49, 32]⟩ : ByteArray) ++ t320) ++ (⟨#[10, 115, 104, 111, 119, 32, 120, 10, 100, 97, 116, 97, 32, 120, 32, 50, 32, 52, 32, 45, 49, 10]⟩ : ByteArray)) ++ (((((⟨#[108, 97, 121, 32, 121, 32, 120, 32]⟩ : ByteArray) ++ t330) ++ (⟨#[32, 52, 10, 115, 104, 111, 119, 32, 121, 10, 117, 110, 108, 97, 121, 32, 121, 32, 121, 32]⟩ : ByteArray)) ++ t331) ++ (⟨#[32, 52, 10, 115, 104, 111, 119, 32, 121, 10]⟩ : ByteArray))), Qr1_, Qc0_, H', ⟨by have := HJ8.out; have := HJ22.out; have := HJ37.out; first | omega | exact Nat.le_refl _⟩, ⟨Qr_ HO_317002.out⟩, ⟨Qr_ HO_317003.out⟩, ⟨Qk_ BK316.out⟩, ⟨Qg_ GE316.out⟩⟩
                            ·rw [if_neg c55] at H
                             exact absurd H (by simp)
                           ·rw [if_neg c54] at H
                            exact absurd H (by simp)
                          ·rw [if_neg c53] at H
                           exact absurd H (by simp)
                         ·rw [if_neg c52] at H
                          exact absurd H (by simp)
                        ·rw [if_neg c51] at H
                         exact absurd H (by simp)
                       ·rw [if_neg c50] at H
                        exact absurd H (by simp)
                      ·rw [if_neg c49] at H
                       exact absurd H (by simp)
                     ·rw [if_neg c48] at H
                      exact absurd H (by simp)
                    ·rw [if_neg c46] at H
                     exact absurd H (by simp)
                   ·rw [if_neg c45] at H
                    exact absurd H (by simp)
               ·rw [if_neg c35] at H
                have c35b0 := decide_eq_false c35
                clear c35
                (first | rw [c35b0] | (simp only [i64_w, i32_w]; rw [c35b0]) | skip)
                have H' := Aside0.mk H
                clear H
                go_wp2
                go_meet
                case rel => exact ⟨_, (((((t325 ++ (⟨#[10]⟩ : ByteArray)) ++ x14_22) ++ (⟨#[10]⟩ : ByteArray)) ++ t320) ++ (⟨#[32, 110, 111, 110, 101, 10]⟩ : ByteArray)), (((⟨#[98, 108, 111, 99, 107, 115, 32, 120, 32, 50, 32, 52, 32, 45, 49, 32]⟩ : ByteArray) ++ t320) ++ (⟨#[10, 115, 104, 111, 119, 32, 120, 10, 100, 97, 116, 97, 32, 120, 32, 50, 32, 52, 32, 45, 49, 10]⟩ : ByteArray)), Qr1_, Qc0_, H', ⟨by have := HJ8.out; have := HJ22.out; first | omega | exact Nat.le_refl _⟩, ⟨Qr_ HO_317002.out⟩, ⟨Qr_ HO_317003.out⟩, ⟨Qk_ BK316.out⟩, ⟨Qg_ GE316.out⟩⟩
              case rest => as_aux_lemma =>
               clear HC33
               try clear c1
               try clear c2
               try clear p2
               try clear c3
               try clear c4
               try clear c5
               try clear c6
               try clear p6
               try clear c7
               try clear c8
               try clear c9
               try clear c10
               try clear c11
               try clear c20
               try clear c21
               try clear c22
               try clear c24
               try clear c24b0
               try clear c24b1
               try clear c26
               try clear c26b0
               try clear c26b1
               try clear c26b2
               try clear c27
               try clear c27b0
               try clear c27b1
               try clear c27b2
               try clear c28
               try clear c28b0
               try clear c28b1
               try clear c28b2
               try clear c29
               try clear c29b0
               try clear c29b1
               try clear c29b2
               try clear c30
               try clear c30b0
               try clear c30b1
               try clear c30b2
               try clear c31
               try clear c31b0
               try clear c31b1
               try clear c31b2
               try clear c32
               try clear c32b0
               try clear c32b1
               try clear c32b2
               try clear c35
               try clear c35b0
               try clear c41
               try clear c42
               try clear c43
               try clear c45
               try clear c45b0
               try clear c45b1
               try clear c45b2
               try clear c46
               try clear c46b0
               try clear c46b1
               try clear c46b2
               try clear c48
               try clear c48b0
               try clear c48b1
               try clear c48b2
               try clear c49
               try clear c49b0
               try clear c49b1
               try clear c49b2
               try clear c50
               try clear c50b0
               try clear c50b1
               try clear c50b2
               try clear c51
               try clear c51b0
               try clear c51b1
               try clear c51b2
               try clear c52
               try clear c52b0
               try clear c52b1
               try clear c52b2
               try clear c53
               try clear c53b0
               try clear c53b1
               try clear c53b2
               try clear c54
               try clear c54b0
               try clear c54b1
               try clear c54b2
               try clear c55
               try clear c55b0
               try clear c55b1
               try clear c55b2
               try clear hcz12_0
               try clear hcz12_1
               try clear hcz12_2
               try clear hcz12_3
               try clear hcz18_0
               try clear hcz18_1
               try clear hcz18_2
               try clear hcz18_3
               try clear hfz12_0
               try clear hfz12_1
               try clear hfz12_2
               try clear hfz12_3
               try clear hfz18_0
               try clear hfz18_1
               try clear hfz18_2
               try clear hfz18_3
               try clear p2
               try clear p6
               obtain ⟨kq, x15_32, x16_32, rfl, rfl, HA, HJ32, HO_317002, HO_317003, BK316, HB⟩ := hcut
               cases kq with
               | zero => exact absurd HA.out (by simp [laws_FnTop.j3])
               | succ kj32 =>
                have H := HA.out
                clear HA
                simp only [laws_FnTop.j3] at H
                replace H := Option.bind_eq_some_iff.mp H
                obtain ⟨⟨t332, t333⟩, A580, H⟩ := H
                try dsimp only at H
                have A58 := Aside0.mk A580
                clear A580
                replace H := Option.bind_eq_some_iff.mp H
                obtain ⟨⟨t334, t335⟩, A590, H⟩ := H
                try dsimp only at H
                have A59 := Aside0.mk A590
                clear A590
                replace H := Option.bind_eq_some_iff.mp H
                obtain ⟨⟨t336, t337⟩, A600, H⟩ := H
                try dsimp only at H
                have A60 := Aside0.mk A600
                clear A600
                have HC61 := Aside0.mk H
                clear H
                go_upto_region 25 with (first | ((with_reducible refine gate_callee (f := 12) rfl ?_); refine goesL_ (some 126) rfl rfl Tryz.func12 Qh0_ rfl #[.string t322, .int .i64 3] rfl Qb0_ ?_; (with_reducible refine (impl_RepeatBits.calls kj32 t322 3 t332 t333 _ A58.out).mono ?_); rintro e w62 ⟨rfl, hb⟩; refine ⟨_, rfl, ?_⟩; have n0_ := Aside0.mk (Kd.R_below (Qr_ HO_317002.out) hb); have n1_ := Aside0.mk (Kd.R_below (Qr_ HO_317003.out) hb); have n2_ := Aside0.mk (blk_below (g := gb316) (o := .cells #[.int .i64 t307, .int .i64 t308, .slice Ao13 t309.length co13, .slice Ao14 t312.length co14] 26 (0, 0)) (Qk_ BK316.out) hb); have n3_ := Aside0.mk (below_step (Qg_ GE316.out) hb); clear HO_317002; clear HO_317003; clear BK316; clear HB; have HO_317002 := n0_; have HO_317003 := n1_; have BK316 := n2_; have HB := n3_; clear n0_ n1_ n2_ n3_; (try clear hb); (try clear hb2); (try clear hk); (try clear hi)) | ((with_reducible refine gate_callee (f := 13) rfl ?_); refine goesL_ (some 131) rfl rfl Tryz.func13 Qh0_ rfl #[.int .i64 11, .string t322] rfl Qb0_ ?_; (with_reducible refine (impl_AddCheck.calls kj32 11 t322 t334 t335 _ A59.out).mono ?_); rintro e w63 ⟨rfl, hb⟩; refine ⟨_, rfl, ?_⟩; have n0_ := Aside0.mk (Kd.R_below (Qr_ HO_317002.out) hb); have n1_ := Aside0.mk (Kd.R_below (Qr_ HO_317003.out) hb); have n2_ := Aside0.mk (blk_below (g := gb316) (o := .cells #[.int .i64 t307, .int .i64 t308, .slice Ao13 t309.length co13, .slice Ao14 t312.length co14] 26 (0, 0)) (Qk_ BK316.out) hb); have n3_ := Aside0.mk (below_step (Qg_ GE316.out) hb); clear HO_317002; clear HO_317003; clear BK316; clear HB; have HO_317002 := n0_; have HO_317003 := n1_; have BK316 := n2_; have HB := n3_; clear n0_ n1_ n2_ n3_; (try clear hb); (try clear hb2); (try clear hk); (try clear hi)) | ((with_reducible refine gate_callee (f := 14) rfl ?_); refine goesL_ (some 136) rfl rfl Tryz.func14 Qh0_ rfl #[.int .i64 11, .string t322] rfl Qb0_ ?_; (with_reducible refine (spec_AddCheck.calls kj32 11 t322 t336 t337 _ A60.out).mono ?_); rintro e w64 ⟨rfl, hb⟩; refine ⟨_, rfl, ?_⟩; have n0_ := Aside0.mk (Kd.R_below (Qr_ HO_317002.out) hb); have n1_ := Aside0.mk (Kd.R_below (Qr_ HO_317003.out) hb); have n2_ := Aside0.mk (blk_below (g := gb316) (o := .cells #[.int .i64 t307, .int .i64 t308, .slice Ao13 t309.length co13, .slice Ao14 t312.length co14] 26 (0, 0)) (Qk_ BK316.out) hb); have n3_ := Aside0.mk (below_step (Qg_ GE316.out) hb); clear HO_317002; clear HO_317003; clear BK316; clear HB; have HO_317002 := n0_; have HO_317003 := n1_; have BK316 := n2_; have HB := n3_; clear n0_ n1_ n2_ n3_; (try clear hb); (try clear hb2); (try clear hk); (try clear hi)))
                (try simp only [Act.put, List.setIfInBounds_toArray, List.set_cons_zero, List.set_cons_succ])
                go_cut [153] (fun v153 wc => ∃ (kq : Nat) (x153_60 : Bool), v153 = .bool x153_60 ∧ Aside0 (laws_FnTop.j4 kq l1 t322 (wrap64 ((t322.size : Int) / 4)) x15_32 x16_32 t332 t334 t335 x153_60 = some r) ∧ Aside0 (kq ≤ kj32) ∧ Aside0 (Kd.R Kd.string 9 wc w.heap.size (fun k_ => some k_ ≠ ((.slice Ao14 t312.length co14) : Value).ownBlock) (.slice Ao13 t309.length co13) t309) ∧ Aside0 (Kd.R Kd.string 9 wc w.heap.size (fun k_ => some k_ ≠ ((.slice Ao13 t309.length co13) : Value).ownBlock) (.slice Ao14 t312.length co14) t312) ∧ Aside0 (wc.heap[gb316]? = some (.cells #[.int .i64 t307, .int .i64 t308, (.slice Ao13 t309.length co13), (.slice Ao14 t312.length co14)] 26 (0, 0))) ∧ Aside0 (Below w.heap.size w wc))
                case first =>
                 have H := HC61.out
                 clear HC61
                 by_cases c65 : t333 = true
                 ·subst c65
                  rw [if_pos rfl] at H
                  have H1 := H
                  clear H
                  have H := H1
                  clear H1
                  by_cases c66 : (t335 != t337) = true
                  ·rw [if_pos c66] at H
                   have c66b0 : (t335 != t337) = true := c66
                   (try (have c66b1 : decide (t335 = t337) = false := by simpa using c66))
                   (try (have c66b2 : (t335 == t337) = false := by simpa using c66))
                   (try (have c66b3 : ¬ (t335 = t337) := by simpa using c66))
                   clear c66
                   (first | rw [c66b0] | (simp only [i64_w, i32_w]; rw [c66b0]) | skip)
                   have H' := Aside0.mk H
                   clear H
                   go_wp2
                   go_meet
                   case rel => exact ⟨_, (true), Qc0_, H', ⟨Qu1_⟩, ⟨Qr_ HO_317002.out⟩, ⟨Qr_ HO_317003.out⟩, ⟨Qk_ BK316.out⟩, ⟨Qg_ GE316.out⟩⟩
                  ·rw [if_neg c66] at H
                   have c66b0 : (t335 != t337) = false := by simpa using c66
                   (try (have c66b1 : decide (t335 = t337) = true := by simpa using c66))
                   (try (have c66b2 : (t335 == t337) = true := by simpa using c66))
                   clear c66
                   (first | rw [c66b0] | (simp only [i64_w, i32_w]; rw [c66b0]) | skip)
                   by_cases c67 : t335 = true
                   ·subst c67
                    rw [if_pos rfl] at H
                    have H1 := H
                    clear H
                    have H := H1
                    clear H1
                    replace H := Option.bind_eq_some_iff.mp H
                    obtain ⟨t338, A680, H⟩ := H
                    try dsimp only at H
                    have A68 := Aside0.mk A680
                    clear A680
                    have H' := Aside0.mk H
                    clear H
                    go_wp2_with (first | (go_at_call 15; (with_reducible refine (impl_HasCheck.calls kj32 11 t334 t338 _ A68.out).mono ?_); rintro e w69 ⟨rfl, hb⟩; have n0_ := Aside0.mk (Kd.R_below (Qr_ HO_317002.out) hb); have n1_ := Aside0.mk (Kd.R_below (Qr_ HO_317003.out) hb); have n2_ := Aside0.mk (blk_below (g := gb316) (o := .cells #[.int .i64 t307, .int .i64 t308, .slice Ao13 t309.length co13, .slice Ao14 t312.length co14] 26 (0, 0)) (Qk_ BK316.out) hb); have n3_ := Aside0.mk (below_step (Qg_ GE316.out) hb); clear HO_317002; clear HO_317003; clear BK316; clear HB; have HO_317002 := n0_; have HO_317003 := n1_; have BK316 := n2_; have HB := n3_; clear n0_ n1_ n2_ n3_; (try clear hb); (try clear hb2); (try clear hk); (try clear hi)))
                    go_meet
                    case rel => exact ⟨_, (!t338), Qc0_, H', ⟨Qu1_⟩, ⟨Qr_ HO_317002.out⟩, ⟨Qr_ HO_317003.out⟩, ⟨Qk_ BK316.out⟩, ⟨Qg_ GE316.out⟩⟩
                   ·replace c67 := Bool.eq_false_iff.mpr c67
                    subst c67
                    rw [if_neg (show ¬ (false = true) by decide)] at H
                    have H1 := H
                    clear H
                    have H := H1
                    clear H1
                    have H' := Aside0.mk H
                    clear H
                    go_wp2
                    go_meet
                    case rel => exact ⟨_, (false), Qc0_, H', ⟨Qu1_⟩, ⟨Qr_ HO_317002.out⟩, ⟨Qr_ HO_317003.out⟩, ⟨Qk_ BK316.out⟩, ⟨Qg_ GE316.out⟩⟩
                 ·replace c65 := Bool.eq_false_iff.mpr c65
                  subst c65
                  rw [if_neg (show ¬ (false = true) by decide)] at H
                  have H1 := H
                  clear H
                  have H := H1
                  clear H1
                  have H' := Aside0.mk H
                  clear H
                  go_wp2
                  go_meet
                  case rel => exact ⟨_, (true), Qc0_, H', ⟨Qu1_⟩, ⟨Qr_ HO_317002.out⟩, ⟨Qr_ HO_317003.out⟩, ⟨Qk_ BK316.out⟩, ⟨Qg_ GE316.out⟩⟩
                case rest => as_aux_lemma =>
                 clear HC61
                 try clear c1
                 try clear c2
                 try clear p2
                 try clear c3
                 try clear c4
                 try clear c5
                 try clear c6
                 try clear p6
                 try clear c7
                 try clear c8
                 try clear c9
                 try clear c10
                 try clear c11
                 try clear c12
                 try clear c13
                 try clear c14
                 try clear c20
                 try clear c21
                 try clear c22
                 try clear c24
                 try clear c24b0
                 try clear c24b1
                 try clear c26
                 try clear c26b0
                 try clear c26b1
                 try clear c26b2
                 try clear c27
                 try clear c27b0
                 try clear c27b1
                 try clear c27b2
                 try clear c28
                 try clear c28b0
                 try clear c28b1
                 try clear c28b2
                 try clear c29
                 try clear c29b0
                 try clear c29b1
                 try clear c29b2
                 try clear c30
                 try clear c30b0
                 try clear c30b1
                 try clear c30b2
                 try clear c31
                 try clear c31b0
                 try clear c31b1
                 try clear c31b2
                 try clear c32
                 try clear c32b0
                 try clear c32b1
                 try clear c32b2
                 try clear c35
                 try clear c35b0
                 try clear c41
                 try clear c42
                 try clear c43
                 try clear c45
                 try clear c45b0
                 try clear c45b1
                 try clear c45b2
                 try clear c46
                 try clear c46b0
                 try clear c46b1
                 try clear c46b2
                 try clear c48
                 try clear c48b0
                 try clear c48b1
                 try clear c48b2
                 try clear c49
                 try clear c49b0
                 try clear c49b1
                 try clear c49b2
                 try clear c50
                 try clear c50b0
                 try clear c50b1
                 try clear c50b2
                 try clear c51
                 try clear c51b0
                 try clear c51b1
                 try clear c51b2
                 try clear c52
                 try clear c52b0
                 try clear c52b1
                 try clear c52b2
                 try clear c53
                 try clear c53b0
                 try clear c53b1
                 try clear c53b2
                 try clear c54
                 try clear c54b0
                 try clear c54b1
                 try clear c54b2
                 try clear c55
                 try clear c55b0
                 try clear c55b1
                 try clear c55b2
                 try clear p64
                 try clear c65
                 try clear c66
                 try clear c66b0
                 try clear c66b1
                 try clear c66b2
                 try clear c67
                 try clear hcz12_0
                 try clear hcz12_1
                 try clear hcz12_2
                 try clear hcz12_3
                 try clear hcz18_0
                 try clear hcz18_1
                 try clear hcz18_2
                 try clear hcz18_3
                 try clear hfz12_0
                 try clear hfz12_1
                 try clear hfz12_2
                 try clear hfz12_3
                 try clear hfz18_0
                 try clear hfz18_1
                 try clear hfz18_2
                 try clear hfz18_3
                 try clear p2
                 try clear p6
                 obtain ⟨kq, x153_60, rfl, HA, HJ60, HO_317002, HO_317003, BK316, HB⟩ := hcut
                 cases kq with
                 | zero => exact absurd HA.out (by simp [laws_FnTop.j4])
                 | succ kj60 =>
                  have H := HA.out
                  clear HA
                  simp only [laws_FnTop.j4] at H
                  by_cases c70 : x153_60 = true
                  ·subst c70
                   rw [if_pos rfl] at H
                   have H1 := H
                   clear H
                   have H := H1
                   clear H1
                   obtain rfl := Option.some.inj H
                   go_wp2
                   go_ret
                   exact ⟨Qd0_, Qg_ GE316.out⟩
                  ·replace c70 := Bool.eq_false_iff.mpr c70
                   subst c70
                   rw [if_neg (show ¬ (false = true) by decide)] at H
                   have H1 := H
                   clear H
                   have H := H1
                   clear H1
                   have HC71 := Aside0.mk H
                   clear H
                   go_upto_if 155 with (fail)
                   go_cut [15, 16] (fun v15 v16 wc => ∃ (kq : Nat) (x15_70 : ByteArray) (x16_70 : ByteArray), v15 = .string x15_70 ∧ v16 = .string x16_70 ∧ Aside0 (laws_FnTop.j5 kq x15_70 x16_70 t334 t335 = some r) ∧ Aside0 (kq ≤ kj60) ∧ Aside0 (Kd.R Kd.string 9 wc w.heap.size (fun k_ => some k_ ≠ ((.slice Ao14 t312.length co14) : Value).ownBlock) (.slice Ao13 t309.length co13) t309) ∧ Aside0 (Kd.R Kd.string 9 wc w.heap.size (fun k_ => some k_ ≠ ((.slice Ao13 t309.length co13) : Value).ownBlock) (.slice Ao14 t312.length co14) t312) ∧ Aside0 (wc.heap[gb316]? = some (.cells #[.int .i64 t307, .int .i64 t308, (.slice Ao13 t309.length co13), (.slice Ao14 t312.length co14)] 26 (0, 0))) ∧ Aside0 (Below w.heap.size w wc))
                   case first =>
                    have H := HC71.out
                    clear HC71
                    by_cases c72 : (wrap64 ((t322.size : Int) / 4)) > 0
                    ·rw [if_pos c72] at H
                     have c72b0 := decide_eq_true c72
                     clear c72
                     (first | rw [c72b0] | (simp only [i64_w, i32_w]; rw [c72b0]) | skip)
                     replace H := Option.bind_eq_some_iff.mp H
                     obtain ⟨t339, A730, H⟩ := H
                     try dsimp only at H
                     have A73 := Aside0.mk A730
                     clear A730
                     replace H := Option.bind_eq_some_iff.mp H
                     obtain ⟨t340, A740, H⟩ := H
                     try dsimp only at H
                     have A74 := Aside0.mk A740
                     clear A740
                     by_cases c75 : 20 + t340.size ≤ 9223372036854775807
                     ·rw [if_pos c75] at H
                      have c75b0 := eq_true c75
                      have c75b1 := decide_eq_true c75
                      try have c75b2 := eq_false (Nat.not_lt.2 c75)
                      by_cases c76 : ((⟨#[114, 101, 112, 101, 97, 116, 32, 122, 32, 120, 32, 51, 10, 102, 108, 105, 112, 32, 122, 32]⟩ : ByteArray) ++ t340).size + 19 ≤ 9223372036854775807
                      ·rw [if_pos c76] at H
                       have c76b0 := eq_true c76
                       have c76b1 := decide_eq_true c76
                       try have c76b2 := eq_false (Nat.not_lt.2 c76)
                       try have c76b4 : (9223372036854775807 < (20 + t340.size) + 19) = False := eq_false (Nat.not_lt.2 (by have q_ := c76; simp only [ByteArray.size_append] at q_; exact q_))
                       by_cases c77 : x16_32.size + (((⟨#[114, 101, 112, 101, 97, 116, 32, 122, 32, 120, 32, 51, 10, 102, 108, 105, 112, 32, 122, 32]⟩ : ByteArray) ++ t340) ++ (⟨#[10, 118, 111, 116, 101, 32, 122, 32, 122, 32, 51, 10, 115, 104, 111, 119, 32, 122, 10]⟩ : ByteArray)).size ≤ 9223372036854775807
                       ·rw [if_pos c77] at H
                        have c77b0 := eq_true c77
                        have c77b1 := decide_eq_true c77
                        try have c77b2 := eq_false (Nat.not_lt.2 c77)
                        try have c77b4 : (9223372036854775807 < x16_32.size + ((20 + t340.size) + 19)) = False := eq_false (Nat.not_lt.2 (by have q_ := c77; simp only [ByteArray.size_append] at q_; exact q_))
                        by_cases c78 : 9 + t322.size ≤ 9223372036854775807
                        ·rw [if_pos c78] at H
                         have c78b0 := eq_true c78
                         have c78b1 := decide_eq_true c78
                         try have c78b2 := eq_false (Nat.not_lt.2 c78)
                         by_cases c79 : ((⟨#[111, 107, 10, 111, 107, 10, 111, 107, 10]⟩ : ByteArray) ++ t322).size + 1 ≤ 9223372036854775807
                         ·rw [if_pos c79] at H
                          have c79b0 := eq_true c79
                          have c79b1 := decide_eq_true c79
                          try have c79b2 := eq_false (Nat.not_lt.2 c79)
                          try have c79b4 : (9223372036854775807 < (9 + t322.size) + 1) = False := eq_false (Nat.not_lt.2 (by have q_ := c79; simp only [ByteArray.size_append] at q_; exact q_))
                          by_cases c80 : x15_32.size + (((⟨#[111, 107, 10, 111, 107, 10, 111, 107, 10]⟩ : ByteArray) ++ t322) ++ (⟨#[10]⟩ : ByteArray)).size ≤ 9223372036854775807
                          ·rw [if_pos c80] at H
                           have c80b0 := eq_true c80
                           have c80b1 := decide_eq_true c80
                           try have c80b2 := eq_false (Nat.not_lt.2 c80)
                           try have c80b4 : (9223372036854775807 < x15_32.size + ((9 + t322.size) + 1)) = False := eq_false (Nat.not_lt.2 (by have q_ := c80; simp only [ByteArray.size_append] at q_; exact q_))
                           have H' := Aside0.mk H
                           clear H
                           go_wp2_with (first | ((with_reducible refine gate_callee (f := 16) rfl ?_); refine goesL_ (some 159) rfl rfl Tryz.func16 Qh0_ rfl #[.slice A1 l1.length c1, .int .i64 0, .int .i64 (t332.size : Int)] rfl Qb0_ ?_; (with_reducible refine (laws_b10At.calls _ _ l1 0 (t332.size : Int) t339 _ ?side1 ?side2 A73.out).mono ?_); (case side1 => repeat (first | exact (Kd.C_below HR1.out HB.out) | (with_reducible refine Kd.C_alloc ?_ _) | (with_reducible refine Kd.C_drewN ?_ _) | (with_reducible refine Kd.C_drew ?_))); (case side2 => exact HC1.out); rintro e w' ⟨rfl, ⟨nd, rfl⟩⟩; refine ⟨_, rfl, ?_⟩) | ((with_reducible refine gate_callee (f := 9) rfl ?_); refine goesL_ (some 162) rfl rfl Tryz.func9 Qh0_ rfl #[.int .i64 t339] rfl Qb0_ ?_; (with_reducible refine (impl_Decimal.calls t339 t340 _ ?tb A74.out).mono ?_); (case tb => exact Qw0_); rintro e w81 ⟨rfl, hb⟩; refine ⟨_, rfl, ?_⟩; have n0_ := Aside0.mk (Kd.R_below (Qr_ HO_317002.out) hb); have n1_ := Aside0.mk (Kd.R_below (Qr_ HO_317003.out) hb); have n2_ := Aside0.mk (blk_below (g := gb316) (o := .cells #[.int .i64 t307, .int .i64 t308, .slice Ao13 t309.length co13, .slice Ao14 t312.length co14] 26 (0, 0)) (Qk_ BK316.out) hb); have n3_ := Aside0.mk (below_step (Qg_ GE316.out) hb); clear HO_317002; clear HO_317003; clear BK316; clear HB; have HO_317002 := n0_; have HO_317003 := n1_; have BK316 := n2_; have HB := n3_; clear n0_ n1_ n2_ n3_; (try clear hb); (try clear hb2); (try clear hk); (try clear hi)))
                           go_meet
                           case rel => exact ⟨_, (x15_32 ++ (((⟨#[111, 107, 10, 111, 107, 10, 111, 107, 10]⟩ : ByteArray) ++ t322) ++ (⟨#[10]⟩ : ByteArray))), (x16_32 ++ (((⟨#[114, 101, 112, 101, 97, 116, 32, 122, 32, 120, 32, 51, 10, 102, 108, 105, 112, 32, 122, 32]⟩ : ByteArray) ++ t340) ++ (⟨#[10, 118, 111, 116, 101, 32, 122, 32, 122, 32, 51, 10, 115, 104, 111, 119, 32, 122, 10]⟩ : ByteArray))), Qr1_, Qc0_, H', ⟨by have := HJ8.out; have := HJ22.out; have := HJ32.out; have := HJ60.out; first | omega | exact Nat.le_refl _⟩, ⟨Qr_ HO_317002.out⟩, ⟨Qr_ HO_317003.out⟩, ⟨Qk_ BK316.out⟩, ⟨Qg_ GE316.out⟩⟩
                          ·rw [if_neg c80] at H
                           exact absurd H (by simp)
                         ·rw [if_neg c79] at H
                          exact absurd H (by simp)
                        ·rw [if_neg c78] at H
                         exact absurd H (by simp)
                       ·rw [if_neg c77] at H
                        exact absurd H (by simp)
                      ·rw [if_neg c76] at H
                       exact absurd H (by simp)
                     ·rw [if_neg c75] at H
                      exact absurd H (by simp)
                    ·rw [if_neg c72] at H
                     have c72b0 := decide_eq_false c72
                     clear c72
                     (first | rw [c72b0] | (simp only [i64_w, i32_w]; rw [c72b0]) | skip)
                     have H' := Aside0.mk H
                     clear H
                     go_wp2
                     go_meet
                     case rel => exact ⟨_, (x15_32), (x16_32), Qc0_, Qc0_, H', ⟨by have := HJ8.out; have := HJ22.out; have := HJ32.out; have := HJ60.out; first | omega | exact Nat.le_refl _⟩, ⟨Qr_ HO_317002.out⟩, ⟨Qr_ HO_317003.out⟩, ⟨Qk_ BK316.out⟩, ⟨Qg_ GE316.out⟩⟩
                   case rest => as_aux_lemma =>
                    clear HC71
                    try clear c1
                    try clear c2
                    try clear p2
                    try clear c3
                    try clear c4
                    try clear c5
                    try clear c6
                    try clear p6
                    try clear c7
                    try clear c8
                    try clear c9
                    try clear c10
                    try clear c11
                    try clear c12
                    try clear c13
                    try clear c14
                    try clear c16
                    try clear c20
                    try clear c21
                    try clear c22
                    try clear c24
                    try clear c24b0
                    try clear c24b1
                    try clear c26
                    try clear c26b0
                    try clear c26b1
                    try clear c26b2
                    try clear c27
                    try clear c27b0
                    try clear c27b1
                    try clear c27b2
                    try clear c28
                    try clear c28b0
                    try clear c28b1
                    try clear c28b2
                    try clear c29
                    try clear c29b0
                    try clear c29b1
                    try clear c29b2
                    try clear c30
                    try clear c30b0
                    try clear c30b1
                    try clear c30b2
                    try clear c31
                    try clear c31b0
                    try clear c31b1
                    try clear c31b2
                    try clear c32
                    try clear c32b0
                    try clear c32b1
                    try clear c32b2
                    try clear c35
                    try clear c35b0
                    try clear c41
                    try clear c42
                    try clear c43
                    try clear c45
                    try clear c45b0
                    try clear c45b1
                    try clear c45b2
                    try clear c46
                    try clear c46b0
                    try clear c46b1
                    try clear c46b2
                    try clear c48
                    try clear c48b0
                    try clear c48b1
                    try clear c48b2
                    try clear c49
                    try clear c49b0
                    try clear c49b1
                    try clear c49b2
                    try clear c50
                    try clear c50b0
                    try clear c50b1
                    try clear c50b2
                    try clear c51
                    try clear c51b0
                    try clear c51b1
                    try clear c51b2
                    try clear c52
                    try clear c52b0
                    try clear c52b1
                    try clear c52b2
                    try clear c53
                    try clear c53b0
                    try clear c53b1
                    try clear c53b2
                    try clear c54
                    try clear c54b0
                    try clear c54b1
                    try clear c54b2
                    try clear c55
                    try clear c55b0
                    try clear c55b1
                    try clear c55b2
                    try clear p64
                    try clear c65
                    try clear c66
                    try clear c66b0
                    try clear c66b1
                    try clear c66b2
                    try clear c67
                    try clear c70
                    try clear c72
                    try clear c72b0
                    try clear c75
                    try clear c75b0
                    try clear c75b1
                    try clear c75b2
                    try clear c76
                    try clear c76b0
                    try clear c76b1
                    try clear c76b2
                    try clear c77
                    try clear c77b0
                    try clear c77b1
                    try clear c77b2
                    try clear c78
                    try clear c78b0
                    try clear c78b1
                    try clear c78b2
                    try clear c79
                    try clear c79b0
                    try clear c79b1
                    try clear c79b2
                    try clear c80
                    try clear c80b0
                    try clear c80b1
                    try clear c80b2
                    try clear hcz12_0
                    try clear hcz12_1
                    try clear hcz12_2
                    try clear hcz12_3
                    try clear hcz18_0
                    try clear hcz18_1
                    try clear hcz18_2
                    try clear hcz18_3
                    try clear hfz12_0
                    try clear hfz12_1
                    try clear hfz12_2
                    try clear hfz12_3
                    try clear hfz18_0
                    try clear hfz18_1
                    try clear hfz18_2
                    try clear hfz18_3
                    try clear p2
                    try clear p6
                    try clear p64
                    obtain ⟨kq, x15_70, x16_70, rfl, rfl, HA, HJ70, HO_317002, HO_317003, BK316, HB⟩ := hcut
                    cases kq with
                    | zero => exact absurd HA.out (by simp [laws_FnTop.j5])
                    | succ kj70 =>
                     have H := HA.out
                     clear HA
                     simp only [laws_FnTop.j5] at H
                     by_cases c82 : t335 = true
                     ·subst c82
                      rw [if_pos rfl] at H
                      have H1 := H
                      clear H
                      have H := H1
                      clear H1
                      by_cases c83 : x16_70.size + 32 ≤ 9223372036854775807
                      ·rw [if_pos c83] at H
                       have c83b0 := eq_true c83
                       have c83b1 := decide_eq_true c83
                       try have c83b2 := eq_false (Nat.not_lt.2 c83)
                       by_cases c84 : 7 + t334.size ≤ 9223372036854775807
                       ·rw [if_pos c84] at H
                        have c84b0 := eq_true c84
                        have c84b1 := decide_eq_true c84
                        try have c84b2 := eq_false (Nat.not_lt.2 c84)
                        by_cases c85 : ((⟨#[111, 107, 10, 121, 101, 115, 10]⟩ : ByteArray) ++ t334).size + 1 ≤ 9223372036854775807
                        ·rw [if_pos c85] at H
                         have c85b0 := eq_true c85
                         have c85b1 := decide_eq_true c85
                         try have c85b2 := eq_false (Nat.not_lt.2 c85)
                         try have c85b4 : (9223372036854775807 < (7 + t334.size) + 1) = False := eq_false (Nat.not_lt.2 (by have q_ := c85; simp only [ByteArray.size_append] at q_; exact q_))
                         by_cases c86 : x15_70.size + (((⟨#[111, 107, 10, 121, 101, 115, 10]⟩ : ByteArray) ++ t334) ++ (⟨#[10]⟩ : ByteArray)).size ≤ 9223372036854775807
                         ·rw [if_pos c86] at H
                          have c86b0 := eq_true c86
                          have c86b1 := decide_eq_true c86
                          try have c86b2 := eq_false (Nat.not_lt.2 c86)
                          try have c86b4 : (9223372036854775807 < x15_70.size + ((7 + t334.size) + 1)) = False := eq_false (Nat.not_lt.2 (by have q_ := c86; simp only [ByteArray.size_append] at q_; exact q_))
                          replace H := Option.bind_eq_some_iff.mp H
                          obtain ⟨⟨t341, t344, t347, t348⟩, A870, H⟩ := H
                          try dsimp only at H
                          have A87 := Aside0.mk A870
                          clear A870
                          by_cases c88 : t348 = true
                          ·subst c88
                           rw [if_pos rfl] at H
                           have H1 := H
                           clear H
                           have H := H1
                           clear H1
                           by_cases c89 : t347.toList = (x15_70 ++ (((⟨#[111, 107, 10, 121, 101, 115, 10]⟩ : ByteArray) ++ t334) ++ (⟨#[10]⟩ : ByteArray))).toList
                           ·rw [if_pos c89] at H
                            have c89b0 := beq_iff_eq.mpr c89
                            have c89b1 := bne_eq_false_iff_eq.mpr c89
                            clear c89
                            replace H := Option.bind_eq_some_iff.mp H
                            obtain ⟨t350, A900, H⟩ := H
                            try dsimp only at H
                            have A90 := Aside0.mk A900
                            clear A900
                            obtain rfl := Option.some.inj H
                            go_wp2_with (first | ((with_reducible refine gate_callee (f := 17) rfl ?_); refine goesL_ (some 182) rfl rfl Tryz.func17 Qh0_ rfl #[.agg #[.slice none 0 0, .slice none 0 0], .string (x16_70 ++ (⟨#[99, 104, 101, 99, 107, 32, 119, 32, 120, 32, 49, 49, 10, 118, 101, 114, 105, 102, 121, 32, 119, 32, 49, 49, 10, 115, 104, 111, 119, 32, 119, 10]⟩ : ByteArray))] rfl Qb0_ ?_; (refine (impl_RunConsole.calls kj70 _ _ ([] : List ByteArray) _ _ ([] : List ByteArray) (x16_70 ++ (⟨#[99, 104, 101, 99, 107, 32, 119, 32, 120, 32, 49, 49, 10, 118, 101, 114, 105, 102, 121, 32, 119, 32, 49, 49, 10, 115, 104, 111, 119, 32, 119, 10]⟩ : ByteArray)) t341 t344 t347 true _ ?side1 ?side2 ?side3 ?side4 ?tb A87.out).mono ?_); (case tb => exact Qw0_); (case side1 => exact Kd.C_nil _ _); (case side2 => exact Nat.le_refl _); (case side3 => exact Kd.C_nil _ _); (case side4 => exact Nat.le_refl _); rintro e w91 ⟨v342, v345, rfl, ho0, ho1, hb⟩; refine ⟨_, rfl, ?_⟩; have n0_ := Aside0.mk (Kd.R_mono (Kd.R_told (Kd.R_told (Kd.R_old (Qr_ HO_317002.out) hb) (Kd.R_base ho0)) (Kd.R_base ho1)) (fun _ h_ => h_.1)); have n1_ := Aside0.mk (Kd.R_mono (Kd.R_told (Kd.R_told (Kd.R_old (Qr_ HO_317003.out) hb) (Kd.R_base ho0)) (Kd.R_base ho1)) (fun _ h_ => h_.1)); have n2_ := Aside0.mk (Kd.R_lower (Kd.R_new' (Kd.R_new' ho0 (Kd.R_lt (Qr_ HO_317002.out))) (Kd.R_lt (Qr_ HO_317003.out))) (below_size (Qg_ GE316.out))); have n3_ := Aside0.mk (Kd.R_lower (Kd.R_new' (Kd.R_new' ho1 (Kd.R_lt (Qr_ HO_317002.out))) (Kd.R_lt (Qr_ HO_317003.out))) (below_size (Qg_ GE316.out))); have n4_ := Aside0.mk (blk_below (g := gb316) (o := .cells #[.int .i64 t307, .int .i64 t308, .slice Ao13 t309.length co13, .slice Ao14 t312.length co14] 26 (0, 0)) (Qk_ BK316.out) hb); have n5_ := Aside0.mk (below_step (Qg_ GE316.out) hb); clear HO_317002; clear HO_317003; clear BK316; clear HB; have HO_317002 := n0_; have HO_317003 := n1_; have HO343 := n2_; have HO346 := n3_; have BK316 := n4_; have HB := n5_; clear n0_ n1_ n2_ n3_ n4_ n5_; (try clear hb); (try clear hb2); (try clear hk); (try clear hi); (try clear ho0); (try clear ho1)) | ((with_reducible refine gate_dst (N := 28) rfl ?_); refine box_event ?hg (N := 28) ?hd (cs := #[.slice none 0 0, .slice none 0 0]) (t := 42) ?hr ?_; (case hd => rfl); (case hg => rfl); (case hr => exact Qg0_); intro gb349 hg w92 hbox hb; have n0_ := Aside0.mk (Kd.R_below (Qr_ HO_317002.out) hb); have n1_ := Aside0.mk (Kd.R_below (Qr_ HO_317003.out) hb); have n2_ := Aside0.mk (Kd.R_below (Qr_ HO343.out) hb); have n3_ := Aside0.mk (Kd.R_below (Qr_ HO346.out) hb); have n4_ := Aside0.mk (blk_below (g := gb316) (o := .cells #[.int .i64 t307, .int .i64 t308, .slice Ao13 t309.length co13, .slice Ao14 t312.length co14] 26 (0, 0)) (Qk_ BK316.out) hb); have n5_ := Aside0.mk (below_step (Qg_ GE316.out) hb); have n6_ := Aside0.mk (hbox); have n7_ := Aside0.mk ((Qi1_ : w.heap.size ≤ gb349)); have n8_ := Aside0.mk ((Qi1_ : w.heap.size ≤ gb349)); have n9_ := Aside0.mk ((Qu0_ : gb316 ≠ gb349)); have n10_ := Aside0.mk ((Qv0_ : gb349 ≠ gb316)); clear HO_317002; clear HO_317003; clear HO343; clear HO346; clear BK316; clear HB; have HO_317002 := n0_; have HO_317003 := n1_; have HO343 := n2_; have HO346 := n3_; have BK316 := n4_; have HB := n5_; have BK349 := n6_; have GW349 := n7_; have GE349 := n8_; have NB316_349 := n9_; have NB349_316 := n10_; clear n0_ n1_ n2_ n3_ n4_ n5_ n6_ n7_ n8_ n9_ n10_; clear hb hbox hg; obtain ⟨Ao93, co93, eo93⟩ := Kd.R_slice HO343.out; subst eo93; have hnb94 := NB349_316.out; have hnc94 := NB316_349.out; have hcz95_0 : w92.cell? ⟨gb349, 0, none⟩ = some (.slice none 0 0) := (blk_cell BK349.out 0).trans rfl; have hcz95_1 : w92.cell? ⟨gb349, 1, none⟩ = some (.slice none 0 0) := (blk_cell BK349.out 1).trans rfl; have hfz95_0 := blk_frozen BK349.out 0; have hfz95_1 := blk_frozen BK349.out 1; obtain ⟨Ao96, co96, eo96⟩ := Kd.R_slice HO346.out; subst eo96) | (go_at_call 18; (with_reducible refine (impl_ValidConsole.calls kj70 _ _ t341 _ _ t344 t350 _ ?side1 ?side2 ?side3 ?side4 A90.out).mono ?_); (case side1 => refine (Kd.R_reads' (e := 9) (base := w.heap.size) (ok := fun k_ => ((some k_ ≠ (.slice Ao96 t344.length co96 : Value).ownBlock ∧ some k_ ≠ (.slice Ao13 t309.length co13 : Value).ownBlock) ∧ some k_ ≠ (.slice Ao14 t312.length co14 : Value).ownBlock)) (n := t341.length) (c := co93) ?_).2.2; exact Qo1_); (case side2 => exact (Kd.R_reads' HO343.out).2.1); (case side3 => refine (Kd.R_reads' (e := 9) (base := w.heap.size) (ok := fun k_ => ((some k_ ≠ (.slice Ao93 t341.length co93 : Value).ownBlock ∧ some k_ ≠ (.slice Ao13 t309.length co13 : Value).ownBlock) ∧ some k_ ≠ (.slice Ao14 t312.length co14 : Value).ownBlock)) (n := t344.length) (c := co96) ?_).2.2; exact Qn1_); (case side4 => exact (Kd.R_reads' HO346.out).2.1); rintro e w97 ⟨rfl, hb⟩; have n0_ := Aside0.mk (Kd.R_below (by (with_reducible repeat (first | apply Kd.R_alloc | apply Kd.R_drewN | apply Kd.R_drew)); exact (Kd.R_mono (Kd.R_far (p := ⟨gb349, 1, none⟩) (Kd.R_far (p := ⟨gb349, 0, none⟩) (Kd.R_types HO_317002.out BK349.out (by decide)) (fun _ hk => hk.2) (.slice Ao93 t341.length co93)) (fun _ hk => hk.2) (.slice Ao96 t344.length co96)) (fun _ h_ => h_.1))) hb); have n1_ := Aside0.mk (Kd.R_below (by (with_reducible repeat (first | apply Kd.R_alloc | apply Kd.R_drewN | apply Kd.R_drew)); exact (Kd.R_mono (Kd.R_far (p := ⟨gb349, 1, none⟩) (Kd.R_far (p := ⟨gb349, 0, none⟩) (Kd.R_types HO_317003.out BK349.out (by decide)) (fun _ hk => hk.2) (.slice Ao93 t341.length co93)) (fun _ hk => hk.2) (.slice Ao96 t344.length co96)) (fun _ h_ => h_.1))) hb); have n2_ := Aside0.mk (Kd.R_below Qo1_ hb); have n3_ := Aside0.mk (Kd.R_below Qn1_ hb); have n4_ := Aside0.mk (blk_below (g := gb316) (o := .cells #[.int .i64 t307, .int .i64 t308, .slice Ao13 t309.length co13, .slice Ao14 t312.length co14] 26 (0, 0)) (by (with_reducible repeat (first | refine blk_drewN ?_ _ | refine blk_drew ?_ | refine blk_alloc ?_ _)); refine blk_far ?_ NB316_349.out _; (with_reducible repeat (first | refine blk_drewN ?_ _ | refine blk_drew ?_ | refine blk_alloc ?_ _)); refine blk_far ?_ NB316_349.out _; (with_reducible repeat (first | refine blk_drewN ?_ _ | refine blk_drew ?_ | refine blk_alloc ?_ _)); exact BK316.out) hb); have n5_ := Aside0.mk (blk_below (g := gb349) (o := .cells #[.slice Ao93 t341.length co93, .slice Ao96 t344.length co96] 42 (0, 0)) (by (with_reducible repeat (first | refine blk_drewN ?_ _ | refine blk_drew ?_ | refine blk_alloc ?_ _)); refine blk_put (cs := #[.slice Ao93 t341.length co93, .slice none 0 0]) ?_ 1 _ rfl; (with_reducible repeat (first | refine blk_drewN ?_ _ | refine blk_drew ?_ | refine blk_alloc ?_ _)); refine blk_put (cs := #[.slice none 0 0, .slice none 0 0]) ?_ 0 _ rfl; (with_reducible repeat (first | refine blk_drewN ?_ _ | refine blk_drew ?_ | refine blk_alloc ?_ _)); exact BK349.out) hb); have n6_ := Aside0.mk (below_step Qc1_ hb); clear HO_317002; clear HO_317003; clear HO343; clear HO346; clear BK316; clear BK349; clear HB; have HO_317002 := n0_; have HO_317003 := n1_; have HO343 := n2_; have HO346 := n3_; have BK316 := n4_; have BK349 := n5_; have HB := n6_; clear n0_ n1_ n2_ n3_ n4_ n5_ n6_; (try clear hb); (try clear hb2); (try clear hk); (try clear hi)))
                            go_ret
                            exact ⟨Qd0_, Qc1_⟩
                           ·rw [if_neg c89] at H
                            have c89b0 := beq_eq_false_iff_ne.mpr c89
                            have c89b1 := bne_iff_ne.mpr c89
                            obtain rfl := Option.some.inj H
                            go_wp2_with (first | ((with_reducible refine gate_callee (f := 17) rfl ?_); refine goesL_ (some 182) rfl rfl Tryz.func17 Qh0_ rfl #[.agg #[.slice none 0 0, .slice none 0 0], .string (x16_70 ++ (⟨#[99, 104, 101, 99, 107, 32, 119, 32, 120, 32, 49, 49, 10, 118, 101, 114, 105, 102, 121, 32, 119, 32, 49, 49, 10, 115, 104, 111, 119, 32, 119, 10]⟩ : ByteArray))] rfl Qb0_ ?_; (refine (impl_RunConsole.calls kj70 _ _ ([] : List ByteArray) _ _ ([] : List ByteArray) (x16_70 ++ (⟨#[99, 104, 101, 99, 107, 32, 119, 32, 120, 32, 49, 49, 10, 118, 101, 114, 105, 102, 121, 32, 119, 32, 49, 49, 10, 115, 104, 111, 119, 32, 119, 10]⟩ : ByteArray)) t341 t344 t347 true _ ?side1 ?side2 ?side3 ?side4 ?tb A87.out).mono ?_); (case tb => exact Qw0_); (case side1 => exact Kd.C_nil _ _); (case side2 => exact Nat.le_refl _); (case side3 => exact Kd.C_nil _ _); (case side4 => exact Nat.le_refl _); rintro e w98 ⟨v342, v345, rfl, ho0, ho1, hb⟩; refine ⟨_, rfl, ?_⟩; have n0_ := Aside0.mk (Kd.R_mono (Kd.R_told (Kd.R_told (Kd.R_old (Qr_ HO_317002.out) hb) (Kd.R_base ho0)) (Kd.R_base ho1)) (fun _ h_ => h_.1)); have n1_ := Aside0.mk (Kd.R_mono (Kd.R_told (Kd.R_told (Kd.R_old (Qr_ HO_317003.out) hb) (Kd.R_base ho0)) (Kd.R_base ho1)) (fun _ h_ => h_.1)); have n2_ := Aside0.mk (Kd.R_lower (Kd.R_new' (Kd.R_new' ho0 (Kd.R_lt (Qr_ HO_317002.out))) (Kd.R_lt (Qr_ HO_317003.out))) (below_size (Qg_ GE316.out))); have n3_ := Aside0.mk (Kd.R_lower (Kd.R_new' (Kd.R_new' ho1 (Kd.R_lt (Qr_ HO_317002.out))) (Kd.R_lt (Qr_ HO_317003.out))) (below_size (Qg_ GE316.out))); have n4_ := Aside0.mk (blk_below (g := gb316) (o := .cells #[.int .i64 t307, .int .i64 t308, .slice Ao13 t309.length co13, .slice Ao14 t312.length co14] 26 (0, 0)) (Qk_ BK316.out) hb); have n5_ := Aside0.mk (below_step (Qg_ GE316.out) hb); clear HO_317002; clear HO_317003; clear BK316; clear HB; have HO_317002 := n0_; have HO_317003 := n1_; have HO343 := n2_; have HO346 := n3_; have BK316 := n4_; have HB := n5_; clear n0_ n1_ n2_ n3_ n4_ n5_; (try clear hb); (try clear hb2); (try clear hk); (try clear hi); (try clear ho0); (try clear ho1)) | ((with_reducible refine gate_dst (N := 28) rfl ?_); refine box_event ?hg (N := 28) ?hd (cs := #[.slice none 0 0, .slice none 0 0]) (t := 42) ?hr ?_; (case hd => rfl); (case hg => rfl); (case hr => exact Qg0_); intro gb349 hg w99 hbox hb; have n0_ := Aside0.mk (Kd.R_below (Qr_ HO_317002.out) hb); have n1_ := Aside0.mk (Kd.R_below (Qr_ HO_317003.out) hb); have n2_ := Aside0.mk (Kd.R_below (Qr_ HO343.out) hb); have n3_ := Aside0.mk (Kd.R_below (Qr_ HO346.out) hb); have n4_ := Aside0.mk (blk_below (g := gb316) (o := .cells #[.int .i64 t307, .int .i64 t308, .slice Ao13 t309.length co13, .slice Ao14 t312.length co14] 26 (0, 0)) (Qk_ BK316.out) hb); have n5_ := Aside0.mk (below_step (Qg_ GE316.out) hb); have n6_ := Aside0.mk (hbox); have n7_ := Aside0.mk ((Qi1_ : w.heap.size ≤ gb349)); have n8_ := Aside0.mk ((Qi1_ : w.heap.size ≤ gb349)); have n9_ := Aside0.mk ((Qu0_ : gb316 ≠ gb349)); have n10_ := Aside0.mk ((Qv0_ : gb349 ≠ gb316)); clear HO_317002; clear HO_317003; clear HO343; clear HO346; clear BK316; clear HB; have HO_317002 := n0_; have HO_317003 := n1_; have HO343 := n2_; have HO346 := n3_; have BK316 := n4_; have HB := n5_; have BK349 := n6_; have GW349 := n7_; have GE349 := n8_; have NB316_349 := n9_; have NB349_316 := n10_; clear n0_ n1_ n2_ n3_ n4_ n5_ n6_ n7_ n8_ n9_ n10_; clear hb hbox hg; obtain ⟨Ao100, co100, eo100⟩ := Kd.R_slice HO343.out; subst eo100; have hnb101 := NB349_316.out; have hnc101 := NB316_349.out; have hcz102_0 : w99.cell? ⟨gb349, 0, none⟩ = some (.slice none 0 0) := (blk_cell BK349.out 0).trans rfl; have hcz102_1 : w99.cell? ⟨gb349, 1, none⟩ = some (.slice none 0 0) := (blk_cell BK349.out 1).trans rfl; have hfz102_0 := blk_frozen BK349.out 0; have hfz102_1 := blk_frozen BK349.out 1; obtain ⟨Ao103, co103, eo103⟩ := Kd.R_slice HO346.out; subst eo103))
                            go_ret
                            exact ⟨Qd0_, Qc1_⟩
                          ·replace c88 := Bool.eq_false_iff.mpr c88
                           subst c88
                           rw [if_neg (show ¬ (false = true) by decide)] at H
                           have H1 := H
                           clear H
                           have H := H1
                           clear H1
                           obtain rfl := Option.some.inj H
                           go_wp2_with (first | ((with_reducible refine gate_callee (f := 17) rfl ?_); refine goesL_ (some 182) rfl rfl Tryz.func17 Qh0_ rfl #[.agg #[.slice none 0 0, .slice none 0 0], .string (x16_70 ++ (⟨#[99, 104, 101, 99, 107, 32, 119, 32, 120, 32, 49, 49, 10, 118, 101, 114, 105, 102, 121, 32, 119, 32, 49, 49, 10, 115, 104, 111, 119, 32, 119, 10]⟩ : ByteArray))] rfl Qb0_ ?_; (refine (impl_RunConsole.calls kj70 _ _ ([] : List ByteArray) _ _ ([] : List ByteArray) (x16_70 ++ (⟨#[99, 104, 101, 99, 107, 32, 119, 32, 120, 32, 49, 49, 10, 118, 101, 114, 105, 102, 121, 32, 119, 32, 49, 49, 10, 115, 104, 111, 119, 32, 119, 10]⟩ : ByteArray)) t341 t344 t347 false _ ?side1 ?side2 ?side3 ?side4 ?tb A87.out).mono ?_); (case tb => exact Qw0_); (case side1 => exact Kd.C_nil _ _); (case side2 => exact Nat.le_refl _); (case side3 => exact Kd.C_nil _ _); (case side4 => exact Nat.le_refl _); rintro e w104 ⟨v342, v345, rfl, ho0, ho1, hb⟩; refine ⟨_, rfl, ?_⟩; have n0_ := Aside0.mk (Kd.R_mono (Kd.R_told (Kd.R_told (Kd.R_old (Qr_ HO_317002.out) hb) (Kd.R_base ho0)) (Kd.R_base ho1)) (fun _ h_ => h_.1)); have n1_ := Aside0.mk (Kd.R_mono (Kd.R_told (Kd.R_told (Kd.R_old (Qr_ HO_317003.out) hb) (Kd.R_base ho0)) (Kd.R_base ho1)) (fun _ h_ => h_.1)); have n2_ := Aside0.mk (Kd.R_lower (Kd.R_new' (Kd.R_new' ho0 (Kd.R_lt (Qr_ HO_317002.out))) (Kd.R_lt (Qr_ HO_317003.out))) (below_size (Qg_ GE316.out))); have n3_ := Aside0.mk (Kd.R_lower (Kd.R_new' (Kd.R_new' ho1 (Kd.R_lt (Qr_ HO_317002.out))) (Kd.R_lt (Qr_ HO_317003.out))) (below_size (Qg_ GE316.out))); have n4_ := Aside0.mk (blk_below (g := gb316) (o := .cells #[.int .i64 t307, .int .i64 t308, .slice Ao13 t309.length co13, .slice Ao14 t312.length co14] 26 (0, 0)) (Qk_ BK316.out) hb); have n5_ := Aside0.mk (below_step (Qg_ GE316.out) hb); clear HO_317002; clear HO_317003; clear BK316; clear HB; have HO_317002 := n0_; have HO_317003 := n1_; have HO343 := n2_; have HO346 := n3_; have BK316 := n4_; have HB := n5_; clear n0_ n1_ n2_ n3_ n4_ n5_; (try clear hb); (try clear hb2); (try clear hk); (try clear hi); (try clear ho0); (try clear ho1)) | ((with_reducible refine gate_dst (N := 28) rfl ?_); refine box_event ?hg (N := 28) ?hd (cs := #[.slice none 0 0, .slice none 0 0]) (t := 42) ?hr ?_; (case hd => rfl); (case hg => rfl); (case hr => exact Qg0_); intro gb349 hg w105 hbox hb; have n0_ := Aside0.mk (Kd.R_below (Qr_ HO_317002.out) hb); have n1_ := Aside0.mk (Kd.R_below (Qr_ HO_317003.out) hb); have n2_ := Aside0.mk (Kd.R_below (Qr_ HO343.out) hb); have n3_ := Aside0.mk (Kd.R_below (Qr_ HO346.out) hb); have n4_ := Aside0.mk (blk_below (g := gb316) (o := .cells #[.int .i64 t307, .int .i64 t308, .slice Ao13 t309.length co13, .slice Ao14 t312.length co14] 26 (0, 0)) (Qk_ BK316.out) hb); have n5_ := Aside0.mk (below_step (Qg_ GE316.out) hb); have n6_ := Aside0.mk (hbox); have n7_ := Aside0.mk ((Qi1_ : w.heap.size ≤ gb349)); have n8_ := Aside0.mk ((Qi1_ : w.heap.size ≤ gb349)); have n9_ := Aside0.mk ((Qu0_ : gb316 ≠ gb349)); have n10_ := Aside0.mk ((Qv0_ : gb349 ≠ gb316)); clear HO_317002; clear HO_317003; clear HO343; clear HO346; clear BK316; clear HB; have HO_317002 := n0_; have HO_317003 := n1_; have HO343 := n2_; have HO346 := n3_; have BK316 := n4_; have HB := n5_; have BK349 := n6_; have GW349 := n7_; have GE349 := n8_; have NB316_349 := n9_; have NB349_316 := n10_; clear n0_ n1_ n2_ n3_ n4_ n5_ n6_ n7_ n8_ n9_ n10_; clear hb hbox hg; obtain ⟨Ao106, co106, eo106⟩ := Kd.R_slice HO343.out; subst eo106; have hnb107 := NB349_316.out; have hnc107 := NB316_349.out; have hcz108_0 : w105.cell? ⟨gb349, 0, none⟩ = some (.slice none 0 0) := (blk_cell BK349.out 0).trans rfl; have hcz108_1 : w105.cell? ⟨gb349, 1, none⟩ = some (.slice none 0 0) := (blk_cell BK349.out 1).trans rfl; have hfz108_0 := blk_frozen BK349.out 0; have hfz108_1 := blk_frozen BK349.out 1; obtain ⟨Ao109, co109, eo109⟩ := Kd.R_slice HO346.out; subst eo109))
                           go_ret
                           exact ⟨Qd0_, Qc1_⟩
                         ·rw [if_neg c86] at H
                          exact absurd H (by simp)
                        ·rw [if_neg c85] at H
                         exact absurd H (by simp)
                       ·rw [if_neg c84] at H
                        exact absurd H (by simp)
                      ·rw [if_neg c83] at H
                       exact absurd H (by simp)
                     ·replace c82 := Bool.eq_false_iff.mpr c82
                      subst c82
                      rw [if_neg (show ¬ (false = true) by decide)] at H
                      have H1 := H
                      clear H
                      have H := H1
                      clear H1
                      replace H := Option.bind_eq_some_iff.mp H
                      obtain ⟨⟨t351, t354, t357, t358⟩, A1100, H⟩ := H
                      try dsimp only at H
                      have A110 := Aside0.mk A1100
                      clear A1100
                      by_cases c111 : t358 = true
                      ·subst c111
                       rw [if_pos rfl] at H
                       have H1 := H
                       clear H
                       have H := H1
                       clear H1
                       by_cases c112 : t357.toList = x15_70.toList
                       ·rw [if_pos c112] at H
                        have c112b0 := beq_iff_eq.mpr c112
                        have c112b1 := bne_eq_false_iff_eq.mpr c112
                        clear c112
                        replace H := Option.bind_eq_some_iff.mp H
                        obtain ⟨t360, A1130, H⟩ := H
                        try dsimp only at H
                        have A113 := Aside0.mk A1130
                        clear A1130
                        obtain rfl := Option.some.inj H
                        go_wp2_with (first | ((with_reducible refine gate_callee (f := 17) rfl ?_); refine goesL_ (some 182) rfl rfl Tryz.func17 Qh0_ rfl #[.agg #[.slice none 0 0, .slice none 0 0], .string x16_70] rfl Qb0_ ?_; (refine (impl_RunConsole.calls kj70 _ _ ([] : List ByteArray) _ _ ([] : List ByteArray) x16_70 t351 t354 t357 true _ ?side1 ?side2 ?side3 ?side4 ?tb A110.out).mono ?_); (case tb => exact Qw0_); (case side1 => exact Kd.C_nil _ _); (case side2 => exact Nat.le_refl _); (case side3 => exact Kd.C_nil _ _); (case side4 => exact Nat.le_refl _); rintro e w114 ⟨v352, v355, rfl, ho0, ho1, hb⟩; refine ⟨_, rfl, ?_⟩; have n0_ := Aside0.mk (Kd.R_mono (Kd.R_told (Kd.R_told (Kd.R_old (Qr_ HO_317002.out) hb) (Kd.R_base ho0)) (Kd.R_base ho1)) (fun _ h_ => h_.1)); have n1_ := Aside0.mk (Kd.R_mono (Kd.R_told (Kd.R_told (Kd.R_old (Qr_ HO_317003.out) hb) (Kd.R_base ho0)) (Kd.R_base ho1)) (fun _ h_ => h_.1)); have n2_ := Aside0.mk (Kd.R_lower (Kd.R_new' (Kd.R_new' ho0 (Kd.R_lt (Qr_ HO_317002.out))) (Kd.R_lt (Qr_ HO_317003.out))) (below_size (Qg_ GE316.out))); have n3_ := Aside0.mk (Kd.R_lower (Kd.R_new' (Kd.R_new' ho1 (Kd.R_lt (Qr_ HO_317002.out))) (Kd.R_lt (Qr_ HO_317003.out))) (below_size (Qg_ GE316.out))); have n4_ := Aside0.mk (blk_below (g := gb316) (o := .cells #[.int .i64 t307, .int .i64 t308, .slice Ao13 t309.length co13, .slice Ao14 t312.length co14] 26 (0, 0)) (Qk_ BK316.out) hb); have n5_ := Aside0.mk (below_step (Qg_ GE316.out) hb); clear HO_317002; clear HO_317003; clear BK316; clear HB; have HO_317002 := n0_; have HO_317003 := n1_; have HO353 := n2_; have HO356 := n3_; have BK316 := n4_; have HB := n5_; clear n0_ n1_ n2_ n3_ n4_ n5_; (try clear hb); (try clear hb2); (try clear hk); (try clear hi); (try clear ho0); (try clear ho1)) | ((with_reducible refine gate_dst (N := 28) rfl ?_); refine box_event ?hg (N := 28) ?hd (cs := #[.slice none 0 0, .slice none 0 0]) (t := 42) ?hr ?_; (case hd => rfl); (case hg => rfl); (case hr => exact Qg0_); intro gb359 hg w115 hbox hb; have n0_ := Aside0.mk (Kd.R_below (Qr_ HO_317002.out) hb); have n1_ := Aside0.mk (Kd.R_below (Qr_ HO_317003.out) hb); have n2_ := Aside0.mk (Kd.R_below (Qr_ HO353.out) hb); have n3_ := Aside0.mk (Kd.R_below (Qr_ HO356.out) hb); have n4_ := Aside0.mk (blk_below (g := gb316) (o := .cells #[.int .i64 t307, .int .i64 t308, .slice Ao13 t309.length co13, .slice Ao14 t312.length co14] 26 (0, 0)) (Qk_ BK316.out) hb); have n5_ := Aside0.mk (below_step (Qg_ GE316.out) hb); have n6_ := Aside0.mk (hbox); have n7_ := Aside0.mk ((Qi1_ : w.heap.size ≤ gb359)); have n8_ := Aside0.mk ((Qi1_ : w.heap.size ≤ gb359)); have n9_ := Aside0.mk ((Qu0_ : gb316 ≠ gb359)); have n10_ := Aside0.mk ((Qv0_ : gb359 ≠ gb316)); clear HO_317002; clear HO_317003; clear HO353; clear HO356; clear BK316; clear HB; have HO_317002 := n0_; have HO_317003 := n1_; have HO353 := n2_; have HO356 := n3_; have BK316 := n4_; have HB := n5_; have BK359 := n6_; have GW359 := n7_; have GE359 := n8_; have NB316_359 := n9_; have NB359_316 := n10_; clear n0_ n1_ n2_ n3_ n4_ n5_ n6_ n7_ n8_ n9_ n10_; clear hb hbox hg; obtain ⟨Ao116, co116, eo116⟩ := Kd.R_slice HO353.out; subst eo116; have hnb117 := NB359_316.out; have hnc117 := NB316_359.out; have hcz118_0 : w115.cell? ⟨gb359, 0, none⟩ = some (.slice none 0 0) := (blk_cell BK359.out 0).trans rfl; have hcz118_1 : w115.cell? ⟨gb359, 1, none⟩ = some (.slice none 0 0) := (blk_cell BK359.out 1).trans rfl; have hfz118_0 := blk_frozen BK359.out 0; have hfz118_1 := blk_frozen BK359.out 1; obtain ⟨Ao119, co119, eo119⟩ := Kd.R_slice HO356.out; subst eo119) | (go_at_call 18; (with_reducible refine (impl_ValidConsole.calls kj70 _ _ t351 _ _ t354 t360 _ ?side1 ?side2 ?side3 ?side4 A113.out).mono ?_); (case side1 => refine (Kd.R_reads' (e := 9) (base := w.heap.size) (ok := fun k_ => ((some k_ ≠ (.slice Ao119 t354.length co119 : Value).ownBlock ∧ some k_ ≠ (.slice Ao13 t309.length co13 : Value).ownBlock) ∧ some k_ ≠ (.slice Ao14 t312.length co14 : Value).ownBlock)) (n := t351.length) (c := co116) ?_).2.2; exact Qm1_); (case side2 => exact (Kd.R_reads' HO353.out).2.1); (case side3 => refine (Kd.R_reads' (e := 9) (base := w.heap.size) (ok := fun k_ => ((some k_ ≠ (.slice Ao116 t351.length co116 : Value).ownBlock ∧ some k_ ≠ (.slice Ao13 t309.length co13 : Value).ownBlock) ∧ some k_ ≠ (.slice Ao14 t312.length co14 : Value).ownBlock)) (n := t354.length) (c := co119) ?_).2.2; exact Ql1_); (case side4 => exact (Kd.R_reads' HO356.out).2.1); rintro e w120 ⟨rfl, hb⟩; have n0_ := Aside0.mk (Kd.R_below (by (with_reducible repeat (first | apply Kd.R_alloc | apply Kd.R_drewN | apply Kd.R_drew)); exact (Kd.R_mono (Kd.R_far (p := ⟨gb359, 1, none⟩) (Kd.R_far (p := ⟨gb359, 0, none⟩) (Kd.R_types HO_317002.out BK359.out (by decide)) (fun _ hk => hk.2) (.slice Ao116 t351.length co116)) (fun _ hk => hk.2) (.slice Ao119 t354.length co119)) (fun _ h_ => h_.1))) hb); have n1_ := Aside0.mk (Kd.R_below (by (with_reducible repeat (first | apply Kd.R_alloc | apply Kd.R_drewN | apply Kd.R_drew)); exact (Kd.R_mono (Kd.R_far (p := ⟨gb359, 1, none⟩) (Kd.R_far (p := ⟨gb359, 0, none⟩) (Kd.R_types HO_317003.out BK359.out (by decide)) (fun _ hk => hk.2) (.slice Ao116 t351.length co116)) (fun _ hk => hk.2) (.slice Ao119 t354.length co119)) (fun _ h_ => h_.1))) hb); have n2_ := Aside0.mk (Kd.R_below Qm1_ hb); have n3_ := Aside0.mk (Kd.R_below Ql1_ hb); have n4_ := Aside0.mk (blk_below (g := gb316) (o := .cells #[.int .i64 t307, .int .i64 t308, .slice Ao13 t309.length co13, .slice Ao14 t312.length co14] 26 (0, 0)) (by (with_reducible repeat (first | refine blk_drewN ?_ _ | refine blk_drew ?_ | refine blk_alloc ?_ _)); refine blk_far ?_ NB316_359.out _; (with_reducible repeat (first | refine blk_drewN ?_ _ | refine blk_drew ?_ | refine blk_alloc ?_ _)); refine blk_far ?_ NB316_359.out _; (with_reducible repeat (first | refine blk_drewN ?_ _ | refine blk_drew ?_ | refine blk_alloc ?_ _)); exact BK316.out) hb); have n5_ := Aside0.mk (blk_below (g := gb359) (o := .cells #[.slice Ao116 t351.length co116, .slice Ao119 t354.length co119] 42 (0, 0)) (by (with_reducible repeat (first | refine blk_drewN ?_ _ | refine blk_drew ?_ | refine blk_alloc ?_ _)); refine blk_put (cs := #[.slice Ao116 t351.length co116, .slice none 0 0]) ?_ 1 _ rfl; (with_reducible repeat (first | refine blk_drewN ?_ _ | refine blk_drew ?_ | refine blk_alloc ?_ _)); refine blk_put (cs := #[.slice none 0 0, .slice none 0 0]) ?_ 0 _ rfl; (with_reducible repeat (first | refine blk_drewN ?_ _ | refine blk_drew ?_ | refine blk_alloc ?_ _)); exact BK359.out) hb); have n6_ := Aside0.mk (below_step Qb1_ hb); clear HO_317002; clear HO_317003; clear HO353; clear HO356; clear BK316; clear BK359; clear HB; have HO_317002 := n0_; have HO_317003 := n1_; have HO353 := n2_; have HO356 := n3_; have BK316 := n4_; have BK359 := n5_; have HB := n6_; clear n0_ n1_ n2_ n3_ n4_ n5_ n6_; (try clear hb); (try clear hb2); (try clear hk); (try clear hi)))
                        go_ret
                        exact ⟨Qd0_, Qb1_⟩
                       ·rw [if_neg c112] at H
                        have c112b0 := beq_eq_false_iff_ne.mpr c112
                        have c112b1 := bne_iff_ne.mpr c112
                        obtain rfl := Option.some.inj H
                        go_wp2_with (first | ((with_reducible refine gate_callee (f := 17) rfl ?_); refine goesL_ (some 182) rfl rfl Tryz.func17 Qh0_ rfl #[.agg #[.slice none 0 0, .slice none 0 0], .string x16_70] rfl Qb0_ ?_; (refine (impl_RunConsole.calls kj70 _ _ ([] : List ByteArray) _ _ ([] : List ByteArray) x16_70 t351 t354 t357 true _ ?side1 ?side2 ?side3 ?side4 ?tb A110.out).mono ?_); (case tb => exact Qw0_); (case side1 => exact Kd.C_nil _ _); (case side2 => exact Nat.le_refl _); (case side3 => exact Kd.C_nil _ _); (case side4 => exact Nat.le_refl _); rintro e w121 ⟨v352, v355, rfl, ho0, ho1, hb⟩; refine ⟨_, rfl, ?_⟩; have n0_ := Aside0.mk (Kd.R_mono (Kd.R_told (Kd.R_told (Kd.R_old (Qr_ HO_317002.out) hb) (Kd.R_base ho0)) (Kd.R_base ho1)) (fun _ h_ => h_.1)); have n1_ := Aside0.mk (Kd.R_mono (Kd.R_told (Kd.R_told (Kd.R_old (Qr_ HO_317003.out) hb) (Kd.R_base ho0)) (Kd.R_base ho1)) (fun _ h_ => h_.1)); have n2_ := Aside0.mk (Kd.R_lower (Kd.R_new' (Kd.R_new' ho0 (Kd.R_lt (Qr_ HO_317002.out))) (Kd.R_lt (Qr_ HO_317003.out))) (below_size (Qg_ GE316.out))); have n3_ := Aside0.mk (Kd.R_lower (Kd.R_new' (Kd.R_new' ho1 (Kd.R_lt (Qr_ HO_317002.out))) (Kd.R_lt (Qr_ HO_317003.out))) (below_size (Qg_ GE316.out))); have n4_ := Aside0.mk (blk_below (g := gb316) (o := .cells #[.int .i64 t307, .int .i64 t308, .slice Ao13 t309.length co13, .slice Ao14 t312.length co14] 26 (0, 0)) (Qk_ BK316.out) hb); have n5_ := Aside0.mk (below_step (Qg_ GE316.out) hb); clear HO_317002; clear HO_317003; clear BK316; clear HB; have HO_317002 := n0_; have HO_317003 := n1_; have HO353 := n2_; have HO356 := n3_; have BK316 := n4_; have HB := n5_; clear n0_ n1_ n2_ n3_ n4_ n5_; (try clear hb); (try clear hb2); (try clear hk); (try clear hi); (try clear ho0); (try clear ho1)) | ((with_reducible refine gate_dst (N := 28) rfl ?_); refine box_event ?hg (N := 28) ?hd (cs := #[.slice none 0 0, .slice none 0 0]) (t := 42) ?hr ?_; (case hd => rfl); (case hg => rfl); (case hr => exact Qg0_); intro gb359 hg w122 hbox hb; have n0_ := Aside0.mk (Kd.R_below (Qr_ HO_317002.out) hb); have n1_ := Aside0.mk (Kd.R_below (Qr_ HO_317003.out) hb); have n2_ := Aside0.mk (Kd.R_below (Qr_ HO353.out) hb); have n3_ := Aside0.mk (Kd.R_below (Qr_ HO356.out) hb); have n4_ := Aside0.mk (blk_below (g := gb316) (o := .cells #[.int .i64 t307, .int .i64 t308, .slice Ao13 t309.length co13, .slice Ao14 t312.length co14] 26 (0, 0)) (Qk_ BK316.out) hb); have n5_ := Aside0.mk (below_step (Qg_ GE316.out) hb); have n6_ := Aside0.mk (hbox); have n7_ := Aside0.mk ((Qi1_ : w.heap.size ≤ gb359)); have n8_ := Aside0.mk ((Qi1_ : w.heap.size ≤ gb359)); have n9_ := Aside0.mk ((Qu0_ : gb316 ≠ gb359)); have n10_ := Aside0.mk ((Qv0_ : gb359 ≠ gb316)); clear HO_317002; clear HO_317003; clear HO353; clear HO356; clear BK316; clear HB; have HO_317002 := n0_; have HO_317003 := n1_; have HO353 := n2_; have HO356 := n3_; have BK316 := n4_; have HB := n5_; have BK359 := n6_; have GW359 := n7_; have GE359 := n8_; have NB316_359 := n9_; have NB359_316 := n10_; clear n0_ n1_ n2_ n3_ n4_ n5_ n6_ n7_ n8_ n9_ n10_; clear hb hbox hg; obtain ⟨Ao123, co123, eo123⟩ := Kd.R_slice HO353.out; subst eo123; have hnb124 := NB359_316.out; have hnc124 := NB316_359.out; have hcz125_0 : w122.cell? ⟨gb359, 0, none⟩ = some (.slice none 0 0) := (blk_cell BK359.out 0).trans rfl; have hcz125_1 : w122.cell? ⟨gb359, 1, none⟩ = some (.slice none 0 0) := (blk_cell BK359.out 1).trans rfl; have hfz125_0 := blk_frozen BK359.out 0; have hfz125_1 := blk_frozen BK359.out 1; obtain ⟨Ao126, co126, eo126⟩ := Kd.R_slice HO356.out; subst eo126))
                        go_ret
                        exact ⟨Qd0_, Qb1_⟩
                      ·replace c111 := Bool.eq_false_iff.mpr c111
                       subst c111
                       rw [if_neg (show ¬ (false = true) by decide)] at H
                       have H1 := H
                       clear H
                       have H := H1
                       clear H1
                       obtain rfl := Option.some.inj H
                       go_wp2_with (first | ((with_reducible refine gate_callee (f := 17) rfl ?_); refine goesL_ (some 182) rfl rfl Tryz.func17 Qh0_ rfl #[.agg #[.slice none 0 0, .slice none 0 0], .string x16_70] rfl Qb0_ ?_; (refine (impl_RunConsole.calls kj70 _ _ ([] : List ByteArray) _ _ ([] : List ByteArray) x16_70 t351 t354 t357 false _ ?side1 ?side2 ?side3 ?side4 ?tb A110.out).mono ?_); (case tb => exact Qw0_); (case side1 => exact Kd.C_nil _ _); (case side2 => exact Nat.le_refl _); (case side3 => exact Kd.C_nil _ _); (case side4 => exact Nat.le_refl _); rintro e w127 ⟨v352, v355, rfl, ho0, ho1, hb⟩; refine ⟨_, rfl, ?_⟩; have n0_ := Aside0.mk (Kd.R_mono (Kd.R_told (Kd.R_told (Kd.R_old (Qr_ HO_317002.out) hb) (Kd.R_base ho0)) (Kd.R_base ho1)) (fun _ h_ => h_.1)); have n1_ := Aside0.mk (Kd.R_mono (Kd.R_told (Kd.R_told (Kd.R_old (Qr_ HO_317003.out) hb) (Kd.R_base ho0)) (Kd.R_base ho1)) (fun _ h_ => h_.1)); have n2_ := Aside0.mk (Kd.R_lower (Kd.R_new' (Kd.R_new' ho0 (Kd.R_lt (Qr_ HO_317002.out))) (Kd.R_lt (Qr_ HO_317003.out))) (below_size (Qg_ GE316.out))); have n3_ := Aside0.mk (Kd.R_lower (Kd.R_new' (Kd.R_new' ho1 (Kd.R_lt (Qr_ HO_317002.out))) (Kd.R_lt (Qr_ HO_317003.out))) (below_size (Qg_ GE316.out))); have n4_ := Aside0.mk (blk_below (g := gb316) (o := .cells #[.int .i64 t307, .int .i64 t308, .slice Ao13 t309.length co13, .slice Ao14 t312.length co14] 26 (0, 0)) (Qk_ BK316.out) hb); have n5_ := Aside0.mk (below_step (Qg_ GE316.out) hb); clear HO_317002; clear HO_317003; clear BK316; clear HB; have HO_317002 := n0_; have HO_317003 := n1_; have HO353 := n2_; have HO356 := n3_; have BK316 := n4_; have HB := n5_; clear n0_ n1_ n2_ n3_ n4_ n5_; (try clear hb); (try clear hb2); (try clear hk); (try clear hi); (try clear ho0); (try clear ho1)) | ((with_reducible refine gate_dst (N := 28) rfl ?_); refine box_event ?hg (N := 28) ?hd (cs := #[.slice none 0 0, .slice none 0 0]) (t := 42) ?hr ?_; (case hd => rfl); (case hg => rfl); (case hr => exact Qg0_); intro gb359 hg w128 hbox hb; have n0_ := Aside0.mk (Kd.R_below (Qr_ HO_317002.out) hb); have n1_ := Aside0.mk (Kd.R_below (Qr_ HO_317003.out) hb); have n2_ := Aside0.mk (Kd.R_below (Qr_ HO353.out) hb); have n3_ := Aside0.mk (Kd.R_below (Qr_ HO356.out) hb); have n4_ := Aside0.mk (blk_below (g := gb316) (o := .cells #[.int .i64 t307, .int .i64 t308, .slice Ao13 t309.length co13, .slice Ao14 t312.length co14] 26 (0, 0)) (Qk_ BK316.out) hb); have n5_ := Aside0.mk (below_step (Qg_ GE316.out) hb); have n6_ := Aside0.mk (hbox); have n7_ := Aside0.mk ((Qi1_ : w.heap.size ≤ gb359)); have n8_ := Aside0.mk ((Qi1_ : w.heap.size ≤ gb359)); have n9_ := Aside0.mk ((Qu0_ : gb316 ≠ gb359)); have n10_ := Aside0.mk ((Qv0_ : gb359 ≠ gb316)); clear HO_317002; clear HO_317003; clear HO353; clear HO356; clear BK316; clear HB; have HO_317002 := n0_; have HO_317003 := n1_; have HO353 := n2_; have HO356 := n3_; have BK316 := n4_; have HB := n5_; have BK359 := n6_; have GW359 := n7_; have GE359 := n8_; have NB316_359 := n9_; have NB359_316 := n10_; clear n0_ n1_ n2_ n3_ n4_ n5_ n6_ n7_ n8_ n9_ n10_; clear hb hbox hg; obtain ⟨Ao129, co129, eo129⟩ := Kd.R_slice HO353.out; subst eo129; have hnb130 := NB359_316.out; have hnc130 := NB316_359.out; have hcz131_0 : w128.cell? ⟨gb359, 0, none⟩ = some (.slice none 0 0) := (blk_cell BK359.out 0).trans rfl; have hcz131_1 : w128.cell? ⟨gb359, 1, none⟩ = some (.slice none 0 0) := (blk_cell BK359.out 1).trans rfl; have hfz131_0 := blk_frozen BK359.out 0; have hfz131_1 := blk_frozen BK359.out 1; obtain ⟨Ao132, co132, eo132⟩ := Kd.R_slice HO356.out; subst eo132))
                       go_ret
                       exact ⟨Qd0_, Qb1_⟩
             ·rw [if_neg c32] at H
              exact absurd H (by simp)
            ·rw [if_neg c31] at H
             exact absurd H (by simp)
           ·rw [if_neg c30] at H
            exact absurd H (by simp)
          ·rw [if_neg c29] at H
           exact absurd H (by simp)
         ·rw [if_neg c28] at H
          exact absurd H (by simp)
        ·rw [if_neg c27] at H
         exact absurd H (by simp)
       ·rw [if_neg c26] at H
        exact absurd H (by simp)
def laws_FnTop.Pure : Prop := ∀ (l0 : List Int) (l1 : List Int), l0.length ≤ maxLen → l0.length * 1 ≤ 140737488351232 → (∀ x ∈ l0, (Lit.int .u8 x).wf = true) → l1.length ≤ maxLen → l1.length * 1 ≤ 140737488351232 → (∀ x ∈ l1, (Lit.int .u8 x).wf = true) → ∃ k, laws_FnTop.f k l0 l1 = some true
theorem laws_FnTop.walk (P : laws_FnTop.Pure) (a0 : Option Addr) (len0 cap0 : Nat) (z0 : List Int) (a1 : Option Addr) (len1 cap1 : Nat) (z1 : List Int) (w : World) (hT : LibW w) (w0 : (a0 = none ∧ len0 = 0 ∧ cap0 = 0 ∧ z0 = []) ∨ ∃ x, a0 = some x ∧ len0 ≤ cap0 ∧ cap0 ≤ maxLen ∧ z0.length = cap0 ∧ (∀ i, i < z0.length → w.cell? (x.add i) = some (.int .u8 (z0.getD i 0))) ∧ ∀ n ∈ z0, (Lit.int .u8 n).wf = true) (y0 : len0 * 1 ≤ 140737488351232) (w1 : (a1 = none ∧ len1 = 0 ∧ cap1 = 0 ∧ z1 = []) ∨ ∃ x, a1 = some x ∧ len1 ≤ cap1 ∧ cap1 ≤ maxLen ∧ z1.length = cap1 ∧ (∀ i, i < z1.length → w.cell? (x.add i) = some (.int .u8 (z1.getD i 0))) ∧ ∀ n ∈ z1, (Lit.int .u8 n).wf = true) (y1 : len1 * 1 ≤ 140737488351232) :
 Calls Tryz.prog 3 #[.slice a0 len0 cap0, .slice a1 len1 cap1] w fun e w' => e = .returned (.bool true) ∧ Below w.heap.size w w' := by
 obtain ⟨l0, rfl, hr0, hm0, hw0, hc0⟩ := ReadsInt.ofRowC w0
 obtain ⟨l1, rfl, hr1, hm1, hw1, hc1⟩ := ReadsInt.ofRowC w1
 obtain ⟨k, h⟩ := P l0 l1 hm0 y0 hw0 hm1 y1 hw1
 refine (laws_FnTop.calls k _ _ l0 _ _ l1 true w (Kd.C_of_reads (d := (0 : Int)) (h1 := fun _ => rfl) hr0) hc0 (Kd.C_of_reads (d := (0 : Int)) (h1 := fun _ => rfl) hr1) hc1 hT h).mono ?_
 rintro e w' ⟨rfl, hd⟩
 exact ⟨rfl, hd⟩
end Go.Proofs.YtdnjebnmianogaaGreatDoor.QFnTop
