/- FnWrongLevels: functions that it reaches, with what they compute and the proof that they do; written by a program of this session (wip/myprint.py). -/
import Derived.Test.YthaafdeicgbajaaDoorQFnWrongLevelsx0
import Derived.Test.YthaafdeicgbajaaDoorQFnWrongLevelsx1
import Derived.Test.YthaafdeicgbajaaDoorQFnWrongLevelsx3
import Derived.Test.YthaafdeicgbajaaDoorQFnWrongLevelsx5
import Derived.Test.YthaafdeicgbajaaDoorQFnWrongLevelsx6
namespace Go.Proofs.YthaafdeicgbajaaDoor.QFnWrongLevels
open Go.RowKit Go.Proofs.YthaafdeicgbajaaDoorW.PrintWords Go.Proofs.YthaafdeicgbajaaDoorW.PrintLast Go.Proofs.YthaafdeicgbajaaDoorW.PrintMore
attribute [local go_sem] max2_int min2_int max_two min_two max_three min_three max_four min_four   -- for this text's walks alone
set_option linter.unusedVariables false
set_option linter.unusedSimpArgs false

/-! ### laws_FnWrongLevels: function 4 -/
mutual
def laws_FnWrongLevels.j0 : Nat → List Int → Int → ByteArray → List Int → Bool → Option (Bool)
  | 0, _, _, _, _, _ => none
  | k + 1, x0, x5, x6, x7, x48 => if x48 = true then (some false) else ((laws_r8At.f x0 1 (x7.length : Int)).bind fun t333 => ((laws_r8At.f x0 2 3).bind fun t334 => ((impl_WrongBehind.f k x5 x6 t333 (wrap64 (t334 - 1))).bind fun bt335 => (if 0 ≤ t333 then (if t333 < (x7.length : Int) then (if (bt335.2 != ((rd x7 t333) != (wrap64 (t334 - 1)))) = true then (some false) else ((some (([] : List Int) : List Int)).bind fun y338 => (if y338.length + x7.length < 17592186044416 then ((some (y338 ++ x7 : List Int)).bind fun y341 => (if t333 < (y341.length : Int) then ((some (y341.set (t333 : Int).toNat (wrap64 (t334 - 1)) : List Int)).bind fun y344 => ((impl_ReadLevels.f k x5 y344).bind fun bt345 => (if bt345.2 = true then (laws_FnWrongLevels.j1 k x5 x6 bt335.1 bt335.2 y344 bt345.1 ((bt345.1.size : Int) != (x6.size : Int))) else (laws_FnWrongLevels.j1 k x5 x6 bt335.1 bt335.2 y344 bt345.1 true)))) else (none))) else (none)))) else (none)) else (none)))))
def laws_FnWrongLevels.j1 : Nat → Int → ByteArray → Int → Bool → List Int → ByteArray → Bool → Option (Bool)
  | 0, _, _, _, _, _, _, _ => none
  | k + 1, x5, x6, x11, x12, x13, x14, x93 => if x93 = true then (some false) else (laws_FnWrongLevels.l0 k x5 x6 x11 x12 x13 x14 0 0)
def laws_FnWrongLevels.l0 : Nat → Int → ByteArray → Int → Bool → List Int → ByteArray → Int → Int → Option (Bool)
  | 0, _, _, _, _, _, _, _, _ => none
  | k + 1, x5, x6, x11, x12, x13, x14, x16, x17 => if x17 < (x6.size : Int) then (if 0 ≤ x17 then (if x17 < (x14.size : Int) then (if (bt x14 x17) = (bt x6 x17) then (laws_FnWrongLevels.l0 k x5 x6 x11 x12 x13 x14 x16 (wrap64 (x17 + 1))) else (laws_FnWrongLevels.l0 k x5 x6 x11 x12 x13 x14 (wrap64 (x16 + 1)) (wrap64 (x17 + 1)))) else (none)) else (none)) else (if x12 = true then (if x11 = x16 then (laws_FnWrongLevels.j3 k x5 x13 (decide (x11 > 2))) else (laws_FnWrongLevels.j3 k x5 x13 true)) else (laws_FnWrongLevels.j3 k x5 x13 false))
def laws_FnWrongLevels.j3 : Nat → Int → List Int → Bool → Option (Bool)
  | 0, _, _, _ => none
  | k + 1, x5, x13, x118 => if x118 = true then (some false) else ((impl_FirstWrong.f k x5 x13).bind fun bt347 => ((impl_BitsOfLevels.f k x5 x13).bind fun bt349 => (if (bt347.2 == bt349.2) = true then (laws_FnWrongLevels.j4 k x5 x13 bt347.1 bt347.2 true) else (if bt347.2 = true then (if bt347.1 < 0 then (laws_FnWrongLevels.j4 k x5 x13 bt347.1 bt347.2 true) else (laws_FnWrongLevels.j4 k x5 x13 bt347.1 bt347.2 (decide (bt347.1 ≥ (x13.length : Int))))) else (laws_FnWrongLevels.j4 k x5 x13 bt347.1 bt347.2 false)))))
def laws_FnWrongLevels.j4 : Nat → Int → List Int → Int → Bool → Bool → Option (Bool)
  | 0, _, _, _, _, _ => none
  | k + 1, x5, x13, x18, x19, x146 => if x146 = true then (some false) else (if x19 = true then (if 0 ≤ x18 then (if x18 ≤ (x13.length : Int) then ((impl_FirstWrong.f k x5 (x13.take (x18 : Int).toNat)).bind fun bt355 => (if 0 ≤ (wrap64 (x18 + 1)) then (if (wrap64 (x18 + 1)) ≤ (x13.length : Int) then ((impl_FirstWrong.f k x5 (x13.take ((wrap64 (x18 + 1)) : Int).toNat)).bind fun bt361 => (if bt355.2 = true then (some false) else (some bt361.2))) else (none)) else (none))) else (none)) else (none)) else (some true))
end
def laws_FnWrongLevels.f (k : Nat) (l0 : List Int) (l1 : List Int) : Option (Bool) := (laws_r8Long.f l0 l1).bind fun t326 => (if t326 = true then (some true) else ((laws_r8At.f l0 0 6).bind fun t327 => ((spec_R8Bits.f k l1 20).bind fun t328 => (if t328.size + 1 ≤ 9223372036854775807 then ((impl_LevelsOf.f k t327 (t328 ++ (⟨#[49]⟩ : ByteArray))).bind fun bt329 => (if bt329.2 = true then (laws_FnWrongLevels.j0 k l0 t327 (t328 ++ (⟨#[49]⟩ : ByteArray)) bt329.1 (decide ((bt329.1.length : Int) < ((t328 ++ (⟨#[49]⟩ : ByteArray)).size : Int)))) else (laws_FnWrongLevels.j0 k l0 t327 (t328 ++ (⟨#[49]⟩ : ByteArray)) bt329.1 true))) else (none)))))
theorem laws_FnWrongLevels.mono_l : ∀ k, (∀ y0 y1 y2 y3 y4, LeO (laws_FnWrongLevels.j0 k y0 y1 y2 y3 y4) (laws_FnWrongLevels.j0 (k + 1) y0 y1 y2 y3 y4)) ∧ (∀ y0 y1 y2 y3 y4 y5 y6, LeO (laws_FnWrongLevels.j1 k y0 y1 y2 y3 y4 y5 y6) (laws_FnWrongLevels.j1 (k + 1) y0 y1 y2 y3 y4 y5 y6)) ∧ (∀ y0 y1 y2 y3 y4 y5 y6 y7, LeO (laws_FnWrongLevels.l0 k y0 y1 y2 y3 y4 y5 y6 y7) (laws_FnWrongLevels.l0 (k + 1) y0 y1 y2 y3 y4 y5 y6 y7)) ∧ (∀ y0 y1 y2, LeO (laws_FnWrongLevels.j3 k y0 y1 y2) (laws_FnWrongLevels.j3 (k + 1) y0 y1 y2)) ∧ (∀ y0 y1 y2 y3 y4, LeO (laws_FnWrongLevels.j4 k y0 y1 y2 y3 y4) (laws_FnWrongLevels.j4 (k + 1) y0 y1 y2 y3 y4))
  | 0 => ⟨fun _ _ _ _ _ r h => by simp [laws_FnWrongLevels.j0] at h, fun _ _ _ _ _ _ _ r h => by simp [laws_FnWrongLevels.j1] at h, fun _ _ _ _ _ _ _ _ r h => by simp [laws_FnWrongLevels.l0] at h, fun _ _ _ r h => by simp [laws_FnWrongLevels.j3] at h, fun _ _ _ _ _ r h => by simp [laws_FnWrongLevels.j4] at h⟩
  | k + 1 => by
    obtain ⟨ih0, ih1, ih2, ih3, ih4⟩ := laws_FnWrongLevels.mono_l k
    refine ⟨?_, ?_, ?_, ?_, ?_⟩
    · intro y0 y1 y2 y3 y4
      unfold laws_FnWrongLevels.j0
      repeat' first
      | (with_reducible exact ih0 _ _ _ _ _)
      | (with_reducible exact ih1 _ _ _ _ _ _ _)
      | (with_reducible exact ih2 _ _ _ _ _ _ _ _)
      | (with_reducible exact ih3 _ _ _)
      | (with_reducible exact ih4 _ _ _ _ _)
      | (with_reducible exact impl_BitsOfLevels.mono _ _ _)
      | (with_reducible exact impl_FirstWrong.mono _ _ _)
      | (with_reducible exact impl_LevelsOf.mono _ _ _)
      | (with_reducible exact impl_ReadLevels.mono _ _ _)
      | (with_reducible exact impl_WrongBehind.mono _ _ _ _ _)
      | (with_reducible exact spec_R8Bits.mono _ _ _)
      | (with_reducible exact LeO.refl _)
      | (with_reducible exact LeO.none _)
      | (with_reducible refine LeO.ite ?_ ?_)
      | (with_reducible refine LeO.bind ?_ (fun _ => ?_))
      | exact ih0 _ _ _ _ _
      | exact ih1 _ _ _ _ _ _ _
      | exact ih2 _ _ _ _ _ _ _ _
      | exact ih3 _ _ _
      | exact ih4 _ _ _ _ _
      | exact impl_BitsOfLevels.mono _ _ _
      | exact impl_FirstWrong.mono _ _ _
      | exact impl_LevelsOf.mono _ _ _
      | exact impl_ReadLevels.mono _ _ _
      | exact impl_WrongBehind.mono _ _ _ _ _
      | exact spec_R8Bits.mono _ _ _
      | exact LeO.none _
      | refine LeO.ite ?_ ?_
      | refine LeO.bind ?_ (fun _ => ?_)
    · intro y0 y1 y2 y3 y4 y5 y6
      unfold laws_FnWrongLevels.j1
      repeat' first
      | (with_reducible exact ih0 _ _ _ _ _)
      | (with_reducible exact ih1 _ _ _ _ _ _ _)
      | (with_reducible exact ih2 _ _ _ _ _ _ _ _)
      | (with_reducible exact ih3 _ _ _)
      | (with_reducible exact ih4 _ _ _ _ _)
      | (with_reducible exact impl_BitsOfLevels.mono _ _ _)
      | (with_reducible exact impl_FirstWrong.mono _ _ _)
      | (with_reducible exact impl_LevelsOf.mono _ _ _)
      | (with_reducible exact impl_ReadLevels.mono _ _ _)
      | (with_reducible exact impl_WrongBehind.mono _ _ _ _ _)
      | (with_reducible exact spec_R8Bits.mono _ _ _)
      | (with_reducible exact LeO.refl _)
      | (with_reducible exact LeO.none _)
      | (with_reducible refine LeO.ite ?_ ?_)
      | (with_reducible refine LeO.bind ?_ (fun _ => ?_))
      | exact ih0 _ _ _ _ _
      | exact ih1 _ _ _ _ _ _ _
      | exact ih2 _ _ _ _ _ _ _ _
      | exact ih3 _ _ _
      | exact ih4 _ _ _ _ _
      | exact impl_BitsOfLevels.mono _ _ _
      | exact impl_FirstWrong.mono _ _ _
      | exact impl_LevelsOf.mono _ _ _
      | exact impl_ReadLevels.mono _ _ _
      | exact impl_WrongBehind.mono _ _ _ _ _
      | exact spec_R8Bits.mono _ _ _
      | exact LeO.none _
      | refine LeO.ite ?_ ?_
      | refine LeO.bind ?_ (fun _ => ?_)
    · intro y0 y1 y2 y3 y4 y5 y6 y7
      unfold laws_FnWrongLevels.l0
      repeat' first
      | (with_reducible exact ih0 _ _ _ _ _)
      | (with_reducible exact ih1 _ _ _ _ _ _ _)
      | (with_reducible exact ih2 _ _ _ _ _ _ _ _)
      | (with_reducible exact ih3 _ _ _)
      | (with_reducible exact ih4 _ _ _ _ _)
      | (with_reducible exact impl_BitsOfLevels.mono _ _ _)
      | (with_reducible exact impl_FirstWrong.mono _ _ _)
      | (with_reducible exact impl_LevelsOf.mono _ _ _)
      | (with_reducible exact impl_ReadLevels.mono _ _ _)
      | (with_reducible exact impl_WrongBehind.mono _ _ _ _ _)
      | (with_reducible exact spec_R8Bits.mono _ _ _)
      | (with_reducible exact LeO.refl _)
      | (with_reducible exact LeO.none _)
      | (with_reducible refine LeO.ite ?_ ?_)
      | (with_reducible refine LeO.bind ?_ (fun _ => ?_))
      | exact ih0 _ _ _ _ _
      | exact ih1 _ _ _ _ _ _ _
      | exact ih2 _ _ _ _ _ _ _ _
      | exact ih3 _ _ _
      | exact ih4 _ _ _ _ _
      | exact impl_BitsOfLevels.mono _ _ _
      | exact impl_FirstWrong.mono _ _ _
      | exact impl_LevelsOf.mono _ _ _
      | exact impl_ReadLevels.mono _ _ _
      | exact impl_WrongBehind.mono _ _ _ _ _
      | exact spec_R8Bits.mono _ _ _
      | exact LeO.none _
      | refine LeO.ite ?_ ?_
      | refine LeO.bind ?_ (fun _ => ?_)
    · intro y0 y1 y2
      unfold laws_FnWrongLevels.j3
      repeat' first
      | (with_reducible exact ih0 _ _ _ _ _)
      | (with_reducible exact ih1 _ _ _ _ _ _ _)
      | (with_reducible exact ih2 _ _ _ _ _ _ _ _)
      | (with_reducible exact ih3 _ _ _)
      | (with_reducible exact ih4 _ _ _ _ _)
      | (with_reducible exact impl_BitsOfLevels.mono _ _ _)
      | (with_reducible exact impl_FirstWrong.mono _ _ _)
      | (with_reducible exact impl_LevelsOf.mono _ _ _)
      | (with_reducible exact impl_ReadLevels.mono _ _ _)
      | (with_reducible exact impl_WrongBehind.mono _ _ _ _ _)
      | (with_reducible exact spec_R8Bits.mono _ _ _)
      | (with_reducible exact LeO.refl _)
      | (with_reducible exact LeO.none _)
      | (with_reducible refine LeO.ite ?_ ?_)
      | (with_reducible refine LeO.bind ?_ (fun _ => ?_))
      | exact ih0 _ _ _ _ _
      | exact ih1 _ _ _ _ _ _ _
      | exact ih2 _ _ _ _ _ _ _ _
      | exact ih3 _ _ _
      | exact ih4 _ _ _ _ _
      | exact impl_BitsOfLevels.mono _ _ _
      | exact impl_FirstWrong.mono _ _ _
      | exact impl_LevelsOf.mono _ _ _
      | exact impl_ReadLevels.mono _ _ _
      | exact impl_WrongBehind.mono _ _ _ _ _
      | exact spec_R8Bits.mono _ _ _
      | exact LeO.none _
      | refine LeO.ite ?_ ?_
      | refine LeO.bind ?_ (fun _ => ?_)
    · intro y0 y1 y2 y3 y4
      unfold laws_FnWrongLevels.j4
      repeat' first
      | (with_reducible exact ih0 _ _ _ _ _)
      | (with_reducible exact ih1 _ _ _ _ _ _ _)
      | (with_reducible exact ih2 _ _ _ _ _ _ _ _)
      | (with_reducible exact ih3 _ _ _)
      | (with_reducible exact ih4 _ _ _ _ _)
      | (with_reducible exact impl_BitsOfLevels.mono _ _ _)
      | (with_reducible exact impl_FirstWrong.mono _ _ _)
      | (with_reducible exact impl_LevelsOf.mono _ _ _)
      | (with_reducible exact impl_ReadLevels.mono _ _ _)
      | (with_reducible exact impl_WrongBehind.mono _ _ _ _ _)
      | (with_reducible exact spec_R8Bits.mono _ _ _)
      | (with_reducible exact LeO.refl _)
      | (with_reducible exact LeO.none _)
      | (with_reducible refine LeO.ite ?_ ?_)
      | (with_reducible refine LeO.bind ?_ (fun _ => ?_))
      | exact ih0 _ _ _ _ _
      | exact ih1 _ _ _ _ _ _ _
      | exact ih2 _ _ _ _ _ _ _ _
      | exact ih3 _ _ _
      | exact ih4 _ _ _ _ _
      | exact impl_BitsOfLevels.mono _ _ _
      | exact impl_FirstWrong.mono _ _ _
      | exact impl_LevelsOf.mono _ _ _
      | exact impl_ReadLevels.mono _ _ _
      | exact impl_WrongBehind.mono _ _ _ _ _
      | exact spec_R8Bits.mono _ _ _
      | exact LeO.none _
      | refine LeO.ite ?_ ?_
      | refine LeO.bind ?_ (fun _ => ?_)
theorem laws_FnWrongLevels.mono : ∀ a0 a1 k, LeO (laws_FnWrongLevels.f k a0 a1) (laws_FnWrongLevels.f (k + 1) a0 a1) := by
  intro a0 a1 k
  obtain ⟨ih0, ih1, ih2, ih3, ih4⟩ := laws_FnWrongLevels.mono_l k
  unfold laws_FnWrongLevels.f
  repeat' first
      | (with_reducible exact ih0 _ _ _ _ _)
      | (with_reducible exact ih1 _ _ _ _ _ _ _)
      | (with_reducible exact ih2 _ _ _ _ _ _ _ _)
      | (with_reducible exact ih3 _ _ _)
      | (with_reducible exact ih4 _ _ _ _ _)
      | (with_reducible exact impl_BitsOfLevels.mono _ _ _)
      | (with_reducible exact impl_FirstWrong.mono _ _ _)
      | (with_reducible exact impl_LevelsOf.mono _ _ _)
      | (with_reducible exact impl_ReadLevels.mono _ _ _)
      | (with_reducible exact impl_WrongBehind.mono _ _ _ _ _)
      | (with_reducible exact spec_R8Bits.mono _ _ _)
      | (with_reducible exact LeO.refl _)
      | (with_reducible exact LeO.none _)
      | (with_reducible refine LeO.ite ?_ ?_)
      | (with_reducible refine LeO.bind ?_ (fun _ => ?_))
      | exact ih0 _ _ _ _ _
      | exact ih1 _ _ _ _ _ _ _
      | exact ih2 _ _ _ _ _ _ _ _
      | exact ih3 _ _ _
      | exact ih4 _ _ _ _ _
      | exact impl_BitsOfLevels.mono _ _ _
      | exact impl_FirstWrong.mono _ _ _
      | exact impl_LevelsOf.mono _ _ _
      | exact impl_ReadLevels.mono _ _ _
      | exact impl_WrongBehind.mono _ _ _ _ _
      | exact spec_R8Bits.mono _ _ _
      | exact LeO.none _
      | refine LeO.ite ?_ ?_
      | refine LeO.bind ?_ (fun _ => ?_)
set_option maxHeartbeats 8000000 in
set_option maxRecDepth 100000 in
theorem laws_FnWrongLevels.calls (k : Nat) (A0 : Option Addr) (c0 : Nat) (l0 : List Int) (A1 : Option Addr) (c1 : Nat) (l1 : List Int) (r : Bool) (w : World) (hr0 : Kd.C (Kd.int .u8) w A0 l0.length l0) (hc0 : l0.length ≤ c0) (hr1 : Kd.C (Kd.int .u8) w A1 l1.length l1) (hc1 : l1.length ≤ c1) (h : laws_FnWrongLevels.f k l0 l1 = some r) :
    Calls Tryd.prog 4 #[.slice A0 l0.length c0, .slice A1 l1.length c1] w fun e w' => e = .returned (.bool r) ∧ Below w.heap.size w w' := by
  have HR0 := Aside0.mk hr0
  have HC0 := Aside0.mk hc0
  clear hr0 hc0
  have HR1 := Aside0.mk hr1
  have HC1 := Aside0.mk hc1
  clear hr1 hc1
  have HB := Aside0.mk (Below.refl w.heap.size w)
  have H : ((laws_r8Long.f l0 l1).bind fun t326 => (if t326 = true then (some true) else ((laws_r8At.f l0 0 6).bind fun t327 => ((spec_R8Bits.f k l1 20).bind fun t328 => (if t328.size + 1 ≤ 9223372036854775807 then ((impl_LevelsOf.f k t327 (t328 ++ (⟨#[49]⟩ : ByteArray))).bind fun bt329 => (if bt329.2 = true then (laws_FnWrongLevels.j0 k l0 t327 (t328 ++ (⟨#[49]⟩ : ByteArray)) bt329.1 (decide ((bt329.1.length : Int) < ((t328 ++ (⟨#[49]⟩ : ByteArray)).size : Int)))) else (laws_FnWrongLevels.j0 k l0 t327 (t328 ++ (⟨#[49]⟩ : ByteArray)) bt329.1 true))) else (none)))))) = some r := h
  clear h
  replace H := Option.bind_eq_some_iff.mp H
  obtain ⟨t326, A30, H⟩ := H
  replace H : (if t326 = true then (some true) else ((laws_r8At.f l0 0 6).bind fun t327 => ((spec_R8Bits.f k l1 20).bind fun t328 => (if t328.size + 1 ≤ 9223372036854775807 then ((impl_LevelsOf.f k t327 (t328 ++ (⟨#[49]⟩ : ByteArray))).bind fun bt329 => (if bt329.2 = true then (laws_FnWrongLevels.j0 k l0 t327 (t328 ++ (⟨#[49]⟩ : ByteArray)) bt329.1 (decide ((bt329.1.length : Int) < ((t328 ++ (⟨#[49]⟩ : ByteArray)).size : Int)))) else (laws_FnWrongLevels.j0 k l0 t327 (t328 ++ (⟨#[49]⟩ : ByteArray)) bt329.1 true))) else (none))))) = some r := H
  have A3 := Aside0.mk A30
  clear A30
  by_cases c4 : t326 = true
  · subst c4
    have H1 : (some true) = some r := by rw [if_pos rfl] at H; exact H
    clear H
    have H := H1
    clear H1
    obtain rfl := Option.some.inj H
    go_enter Tryd.func4, Tryd.ntmps4
    go_wp2_with (first | (go_at_call 11; (with_reducible refine (laws_r8Long.calls _ _ l0 _ _ l1 true _ ?side1 ?side2 ?side3 ?side4 A3.out).mono ?_); (case side1 => repeat (first | exact HR0.out | (with_reducible refine Kd.C_alloc ?_ _) | (with_reducible refine Kd.C_drewN ?_ _) | (with_reducible refine Kd.C_drew ?_))); (case side2 => exact HC0.out); (case side3 => repeat (first | exact HR1.out | (with_reducible refine Kd.C_alloc ?_ _) | (with_reducible refine Kd.C_drewN ?_ _) | (with_reducible refine Kd.C_drew ?_))); (case side4 => exact HC1.out); rintro e w' ⟨rfl, ⟨nd, rfl⟩⟩; (try first | exact ⟨rfl, _, World.drewN_drewN _ _ _⟩ | exact ⟨rfl, _, Eq.trans (World.drewN_drewN _ _ _) (congrArg (World.drewN _) (Nat.add_assoc _ _ _))⟩)))
    repeat (go_quiet (first | (go_at_call 11; (with_reducible refine (laws_r8Long.calls _ _ l0 _ _ l1 true _ ?side1 ?side2 ?side3 ?side4 A3.out).mono ?_); (case side1 => repeat (first | exact HR0.out | (with_reducible refine Kd.C_alloc ?_ _) | (with_reducible refine Kd.C_drewN ?_ _) | (with_reducible refine Kd.C_drew ?_))); (case side2 => exact HC0.out); (case side3 => repeat (first | exact HR1.out | (with_reducible refine Kd.C_alloc ?_ _) | (with_reducible refine Kd.C_drewN ?_ _) | (with_reducible refine Kd.C_drew ?_))); (case side4 => exact HC1.out); rintro e w' ⟨rfl, ⟨nd, rfl⟩⟩; (try first | exact ⟨rfl, _, World.drewN_drewN _ _ _⟩ | exact ⟨rfl, _, Eq.trans (World.drewN_drewN _ _ _) (congrArg (World.drewN _) (Nat.add_assoc _ _ _))⟩))); try go_wp2_with (first | (go_at_call 11; (with_reducible refine (laws_r8Long.calls _ _ l0 _ _ l1 true _ ?side1 ?side2 ?side3 ?side4 A3.out).mono ?_); (case side1 => repeat (first | exact HR0.out | (with_reducible refine Kd.C_alloc ?_ _) | (with_reducible refine Kd.C_drewN ?_ _) | (with_reducible refine Kd.C_drew ?_))); (case side2 => exact HC0.out); (case side3 => repeat (first | exact HR1.out | (with_reducible refine Kd.C_alloc ?_ _) | (with_reducible refine Kd.C_drewN ?_ _) | (with_reducible refine Kd.C_drew ?_))); (case side4 => exact HC1.out); rintro e w' ⟨rfl, ⟨nd, rfl⟩⟩; (try first | exact ⟨rfl, _, World.drewN_drewN _ _ _⟩ | exact ⟨rfl, _, Eq.trans (World.drewN_drewN _ _ _) (congrArg (World.drewN _) (Nat.add_assoc _ _ _))⟩))))
    go_ret
    exact ⟨by first | rfl | (simp [errW_none, errW_some] <;> rfl) | (simp [*, errW_none, errW_some] <;> rfl), by repeat (first | (with_reducible first | exact HB.out | apply below_alloc | apply pw_below_drewN | apply below_drew1) | exact HB.out)⟩
  · replace c4 := Bool.eq_false_iff.mpr c4
    subst c4
    have H1 : ((laws_r8At.f l0 0 6).bind fun t327 => ((spec_R8Bits.f k l1 20).bind fun t328 => (if t328.size + 1 ≤ 9223372036854775807 then ((impl_LevelsOf.f k t327 (t328 ++ (⟨#[49]⟩ : ByteArray))).bind fun bt329 => (if bt329.2 = true then (laws_FnWrongLevels.j0 k l0 t327 (t328 ++ (⟨#[49]⟩ : ByteArray)) bt329.1 (decide ((bt329.1.length : Int) < ((t328 ++ (⟨#[49]⟩ : ByteArray)).size : Int)))) else (laws_FnWrongLevels.j0 k l0 t327 (t328 ++ (⟨#[49]⟩ : ByteArray)) bt329.1 true))) else (none)))) = some r := by rw [if_neg (show ¬ (false = true) by decide)] at H; exact H
    clear H
    have H := H1
    clear H1
    replace H := Option.bind_eq_some_iff.mp H
    obtain ⟨t327, A50, H⟩ := H
    replace H : ((spec_R8Bits.f k l1 20).bind fun t328 => (if t328.size + 1 ≤ 9223372036854775807 then ((impl_LevelsOf.f k t327 (t328 ++ (⟨#[49]⟩ : ByteArray))).bind fun bt329 => (if bt329.2 = true then (laws_FnWrongLevels.j0 k l0 t327 (t328 ++ (⟨#[49]⟩ : ByteArray)) bt329.1 (decide ((bt329.1.length : Int) < ((t328 ++ (⟨#[49]⟩ : ByteArray)).size : Int)))) else (laws_FnWrongLevels.j0 k l0 t327 (t328 ++ (⟨#[49]⟩ : ByteArray)) bt329.1 true))) else (none))) = some r := H
    have A5 := Aside0.mk A50
    clear A50
    replace H := Option.bind_eq_some_iff.mp H
    obtain ⟨t328, A60, H⟩ := H
    replace H : (if t328.size + 1 ≤ 9223372036854775807 then ((impl_LevelsOf.f k t327 (t328 ++ (⟨#[49]⟩ : ByteArray))).bind fun bt329 => (if bt329.2 = true then (laws_FnWrongLevels.j0 k l0 t327 (t328 ++ (⟨#[49]⟩ : ByteArray)) bt329.1 (decide ((bt329.1.length : Int) < ((t328 ++ (⟨#[49]⟩ : ByteArray)).size : Int)))) else (laws_FnWrongLevels.j0 k l0 t327 (t328 ++ (⟨#[49]⟩ : ByteArray)) bt329.1 true))) else (none)) = some r := H
    have A6 := Aside0.mk A60
    clear A60
    by_cases c7 : t328.size + 1 ≤ 9223372036854775807
    · rw [if_pos c7] at H
      have c7b0 := eq_true c7
      have c7b1 : decide (t328.size + 1 ≤ 9223372036854775807) = true := decide_eq_true c7
      try have c7b2 : (9223372036854775807 < t328.size + 1) = False := eq_false (Nat.not_lt.2 c7)
      replace H := Option.bind_eq_some_iff.mp H
      obtain ⟨⟨t329, t330⟩, A80, H⟩ := H
      replace H : (if t330 = true then (laws_FnWrongLevels.j0 k l0 t327 (t328 ++ (⟨#[49]⟩ : ByteArray)) t329 (decide ((t329.length : Int) < ((t328 ++ (⟨#[49]⟩ : ByteArray)).size : Int)))) else (laws_FnWrongLevels.j0 k l0 t327 (t328 ++ (⟨#[49]⟩ : ByteArray)) t329 true)) = some r := H
      have A8 := Aside0.mk A80
      clear A80
      have HC9 := Aside0.mk H
      clear H
      go_enter Tryd.func4, Tryd.ntmps4
      go_upto_region 6 with (first | (go_at_call 11; (with_reducible refine (laws_r8Long.calls _ _ l0 _ _ l1 false _ ?side1 ?side2 ?side3 ?side4 A3.out).mono ?_); (case side1 => repeat (first | exact HR0.out | (with_reducible refine Kd.C_alloc ?_ _) | (with_reducible refine Kd.C_drewN ?_ _) | (with_reducible refine Kd.C_drew ?_))); (case side2 => exact HC0.out); (case side3 => repeat (first | exact HR1.out | (with_reducible refine Kd.C_alloc ?_ _) | (with_reducible refine Kd.C_drewN ?_ _) | (with_reducible refine Kd.C_drew ?_))); (case side4 => exact HC1.out); rintro e w' ⟨rfl, ⟨nd, rfl⟩⟩; (try first | exact ⟨rfl, _, World.drewN_drewN _ _ _⟩ | exact ⟨rfl, _, Eq.trans (World.drewN_drewN _ _ _) (congrArg (World.drewN _) (Nat.add_assoc _ _ _))⟩)) | (go_at_call 12; (with_reducible refine (laws_r8At.calls _ _ l0 0 6 t327 _ ?side1 ?side2 A5.out).mono ?_); (case side1 => repeat (first | exact HR0.out | (with_reducible refine Kd.C_alloc ?_ _) | (with_reducible refine Kd.C_drewN ?_ _) | (with_reducible refine Kd.C_drew ?_))); (case side2 => exact HC0.out); rintro e w' ⟨rfl, ⟨nd, rfl⟩⟩; (try first | exact ⟨rfl, _, World.drewN_drewN _ _ _⟩ | exact ⟨rfl, _, Eq.trans (World.drewN_drewN _ _ _) (congrArg (World.drewN _) (Nat.add_assoc _ _ _))⟩)) | (go_at_call 13; (with_reducible refine (spec_R8Bits.calls k _ _ l1 20 t328 _ ?side1 ?side2 A6.out).mono ?_); (case side1 => repeat (first | exact HR1.out | (with_reducible refine Kd.C_alloc ?_ _) | (with_reducible refine Kd.C_drewN ?_ _) | (with_reducible refine Kd.C_drew ?_))); (case side2 => exact HC1.out); rintro e w10 ⟨rfl, hb⟩; have n0_ := Aside0.mk (below_step (by repeat (first | (with_reducible first | exact HB.out | apply below_alloc | apply pw_below_drewN | apply below_drew1) | exact HB.out)) hb); clear HB; have HB := n0_; clear n0_; (try clear hb); (try clear hb2); (try clear hk); (try clear hi)) | (go_at_call 14; (with_reducible refine (impl_LevelsOf.calls k t327 (t328 ++ (⟨#[49]⟩ : ByteArray)) t329 t330 _ A8.out).mono ?_); rintro e w11 ⟨v331, rfl, ho0, hb⟩; have n0_ := Aside0.mk (Kd.R_lower ho0 (below_size (by repeat (first | (with_reducible first | exact HB.out | apply below_alloc | apply pw_below_drewN | apply below_drew1) | exact HB.out)))); have n1_ := Aside0.mk (below_step (by repeat (first | (with_reducible first | exact HB.out | apply below_alloc | apply pw_below_drewN | apply below_drew1) | exact HB.out)) hb); clear HB; have HO332 := n0_; have HB := n1_; clear n0_ n1_; (try clear hb); (try clear hb2); (try clear hk); (try clear hi); (try clear ho0)))
      repeat (go_quiet (first | (go_at_call 11; (with_reducible refine (laws_r8Long.calls _ _ l0 _ _ l1 false _ ?side1 ?side2 ?side3 ?side4 A3.out).mono ?_); (case side1 => repeat (first | exact HR0.out | (with_reducible refine Kd.C_alloc ?_ _) | (with_reducible refine Kd.C_drewN ?_ _) | (with_reducible refine Kd.C_drew ?_))); (case side2 => exact HC0.out); (case side3 => repeat (first | exact HR1.out | (with_reducible refine Kd.C_alloc ?_ _) | (with_reducible refine Kd.C_drewN ?_ _) | (with_reducible refine Kd.C_drew ?_))); (case side4 => exact HC1.out); rintro e w' ⟨rfl, ⟨nd, rfl⟩⟩; (try first | exact ⟨rfl, _, World.drewN_drewN _ _ _⟩ | exact ⟨rfl, _, Eq.trans (World.drewN_drewN _ _ _) (congrArg (World.drewN _) (Nat.add_assoc _ _ _))⟩)) | (go_at_call 12; (with_reducible refine (laws_r8At.calls _ _ l0 0 6 t327 _ ?side1 ?side2 A5.out).mono ?_); (case side1 => repeat (first | exact HR0.out | (with_reducible refine Kd.C_alloc ?_ _) | (with_reducible refine Kd.C_drewN ?_ _) | (with_reducible refine Kd.C_drew ?_))); (case side2 => exact HC0.out); rintro e w' ⟨rfl, ⟨nd, rfl⟩⟩; (try first | exact ⟨rfl, _, World.drewN_drewN _ _ _⟩ | exact ⟨rfl, _, Eq.trans (World.drewN_drewN _ _ _) (congrArg (World.drewN _) (Nat.add_assoc _ _ _))⟩)) | (go_at_call 13; (with_reducible refine (spec_R8Bits.calls k _ _ l1 20 t328 _ ?side1 ?side2 A6.out).mono ?_); (case side1 => repeat (first | exact HR1.out | (with_reducible refine Kd.C_alloc ?_ _) | (with_reducible refine Kd.C_drewN ?_ _) | (with_reducible refine Kd.C_drew ?_))); (case side2 => exact HC1.out); rintro e w10 ⟨rfl, hb⟩; have n0_ := Aside0.mk (below_step (by repeat (first | (with_reducible first | exact HB.out | apply below_alloc | apply pw_below_drewN | apply below_drew1) | exact HB.out)) hb); clear HB; have HB := n0_; clear n0_; (try clear hb); (try clear hb2); (try clear hk); (try clear hi)) | (go_at_call 14; (with_reducible refine (impl_LevelsOf.calls k t327 (t328 ++ (⟨#[49]⟩ : ByteArray)) t329 t330 _ A8.out).mono ?_); rintro e w11 ⟨v331, rfl, ho0, hb⟩; have n0_ := Aside0.mk (Kd.R_lower ho0 (below_size (by repeat (first | (with_reducible first | exact HB.out | apply below_alloc | apply pw_below_drewN | apply below_drew1) | exact HB.out)))); have n1_ := Aside0.mk (below_step (by repeat (first | (with_reducible first | exact HB.out | apply below_alloc | apply pw_below_drewN | apply below_drew1) | exact HB.out)) hb); clear HB; have HO332 := n0_; have HB := n1_; clear n0_ n1_; (try clear hb); (try clear hb2); (try clear hk); (try clear hi); (try clear ho0))); go_upto_region 6 with (first | (go_at_call 11; (with_reducible refine (laws_r8Long.calls _ _ l0 _ _ l1 false _ ?side1 ?side2 ?side3 ?side4 A3.out).mono ?_); (case side1 => repeat (first | exact HR0.out | (with_reducible refine Kd.C_alloc ?_ _) | (with_reducible refine Kd.C_drewN ?_ _) | (with_reducible refine Kd.C_drew ?_))); (case side2 => exact HC0.out); (case side3 => repeat (first | exact HR1.out | (with_reducible refine Kd.C_alloc ?_ _) | (with_reducible refine Kd.C_drewN ?_ _) | (with_reducible refine Kd.C_drew ?_))); (case side4 => exact HC1.out); rintro e w' ⟨rfl, ⟨nd, rfl⟩⟩; (try first | exact ⟨rfl, _, World.drewN_drewN _ _ _⟩ | exact ⟨rfl, _, Eq.trans (World.drewN_drewN _ _ _) (congrArg (World.drewN _) (Nat.add_assoc _ _ _))⟩)) | (go_at_call 12; (with_reducible refine (laws_r8At.calls _ _ l0 0 6 t327 _ ?side1 ?side2 A5.out).mono ?_); (case side1 => repeat (first | exact HR0.out | (with_reducible refine Kd.C_alloc ?_ _) | (with_reducible refine Kd.C_drewN ?_ _) | (with_reducible refine Kd.C_drew ?_))); (case side2 => exact HC0.out); rintro e w' ⟨rfl, ⟨nd, rfl⟩⟩; (try first | exact ⟨rfl, _, World.drewN_drewN _ _ _⟩ | exact ⟨rfl, _, Eq.trans (World.drewN_drewN _ _ _) (congrArg (World.drewN _) (Nat.add_assoc _ _ _))⟩)) | (go_at_call 13; (with_reducible refine (spec_R8Bits.calls k _ _ l1 20 t328 _ ?side1 ?side2 A6.out).mono ?_); (case side1 => repeat (first | exact HR1.out | (with_reducible refine Kd.C_alloc ?_ _) | (with_reducible refine Kd.C_drewN ?_ _) | (with_reducible refine Kd.C_drew ?_))); (case side2 => exact HC1.out); rintro e w10 ⟨rfl, hb⟩; have n0_ := Aside0.mk (below_step (by repeat (first | (with_reducible first | exact HB.out | apply below_alloc | apply pw_below_drewN | apply below_drew1) | exact HB.out)) hb); clear HB; have HB := n0_; clear n0_; (try clear hb); (try clear hb2); (try clear hk); (try clear hi)) | (go_at_call 14; (with_reducible refine (impl_LevelsOf.calls k t327 (t328 ++ (⟨#[49]⟩ : ByteArray)) t329 t330 _ A8.out).mono ?_); rintro e w11 ⟨v331, rfl, ho0, hb⟩; have n0_ := Aside0.mk (Kd.R_lower ho0 (below_size (by repeat (first | (with_reducible first | exact HB.out | apply below_alloc | apply pw_below_drewN | apply below_drew1) | exact HB.out)))); have n1_ := Aside0.mk (below_step (by repeat (first | (with_reducible first | exact HB.out | apply below_alloc | apply pw_below_drewN | apply below_drew1) | exact HB.out)) hb); clear HB; have HO332 := n0_; have HB := n1_; clear n0_ n1_; (try clear hb); (try clear hb2); (try clear hk); (try clear hi); (try clear ho0))))
      (try simp only [Act.put, List.setIfInBounds_toArray, List.set_cons_zero, List.set_cons_succ])
      go_cut [48] (fun v48 wc => ∃ (kq : Nat) (x48_8 : Bool), v48 = .bool x48_8 ∧ Aside0 (laws_FnWrongLevels.j0 kq l0 t327 (t328 ++ (⟨#[49]⟩ : ByteArray)) t329 x48_8 = some r) ∧ Aside0 (kq ≤ k) ∧ Aside0 (Kd.R (Kd.int .i64) 2 wc w.heap.size (fun _ => True) v331 t329) ∧ Aside0 (Below w.heap.size w wc))
      case first =>
        have H := HC9.out
        clear HC9
        by_cases c12 : t330 = true
        · subst c12
          have H1 : (laws_FnWrongLevels.j0 k l0 t327 (t328 ++ (⟨#[49]⟩ : ByteArray)) t329 (decide ((t329.length : Int) < ((t328 ++ (⟨#[49]⟩ : ByteArray)).size : Int)))) = some r := by rw [if_pos rfl] at H; exact H
          clear H
          have H := H1
          clear H1
          have H' := Aside0.mk H
          clear H
          obtain ⟨Ao13, co13, eo13⟩ := Kd.R_slice HO332.out
          subst eo13
          go_wp2
          repeat (go_quiet (fail); try go_wp2)
          go_meet
          case rel => exact ⟨_, (decide ((t329.length : Int) < ((t328 ++ (⟨#[49]⟩ : ByteArray)).size : Int))), (by first | rfl | (simp; done) | (simp [*]; done) | (simp [show (⟨#[49]⟩ : ByteArray).size = 1 from rfl]; done)), H', ⟨by first | omega | exact Nat.le_refl _⟩, ⟨by (with_reducible repeat (first | apply Kd.R_alloc | apply Kd.R_drewN | apply Kd.R_drew)); exact HO332.out⟩, ⟨by repeat (first | (with_reducible first | exact HB.out | apply below_alloc | apply pw_below_drewN | apply below_drew1) | exact HB.out)⟩⟩
        · replace c12 := Bool.eq_false_iff.mpr c12
          subst c12
          have H1 : (laws_FnWrongLevels.j0 k l0 t327 (t328 ++ (⟨#[49]⟩ : ByteArray)) t329 true) = some r := by rw [if_neg (show ¬ (false = true) by decide)] at H; exact H
          clear H
          have H := H1
          clear H1
          have H' := Aside0.mk H
          clear H
          go_wp2
          repeat (go_quiet (fail); try go_wp2)
          go_meet
          case rel => exact ⟨_, (true), (by first | rfl | (simp; done) | (simp [*]; done)), H', ⟨by first | omega | exact Nat.le_refl _⟩, ⟨by (with_reducible repeat (first | apply Kd.R_alloc | apply Kd.R_drewN | apply Kd.R_drew)); exact HO332.out⟩, ⟨by repeat (first | (with_reducible first | exact HB.out | apply below_alloc | apply pw_below_drewN | apply below_drew1) | exact HB.out)⟩⟩
      case rest =>
        clear HC9
        try clear c1
        try clear p2
        try clear c4
        try clear c7
        try clear c7b0
        try clear c7b1
        try clear c7b2
        try clear c12
        obtain ⟨kq, x48_8, rfl, HA, HJ8, HO_7, HB⟩ := hcut
        obtain ⟨tj0_, htj0_⟩ : ∃ t_ : ByteArray, t_ = (t328 ++ (⟨#[49]⟩ : ByteArray)) := ⟨_, rfl⟩
        rw [← htj0_] at HA
        (try rw [← htj0_])
        clear htj0_
        cases kq with
        | zero => exact absurd HA.out (by simp [laws_FnWrongLevels.j0])
        | succ kj8 =>
          have H := HA.out
          clear HA
          simp only [laws_FnWrongLevels.j0] at H
          by_cases c14 : x48_8 = true
          · subst c14
            have H1 : (some false) = some r := by rw [if_pos rfl] at H; exact H
            clear H
            have H := H1
            clear H1
            obtain rfl := Option.some.inj H
            go_wp2
            repeat (go_quiet (fail); try go_wp2)
            go_ret
            exact ⟨by first | rfl | (simp [errW_none, errW_some] <;> rfl) | (simp [*, errW_none, errW_some] <;> rfl), by repeat (first | (with_reducible first | exact HB.out | apply below_alloc | apply pw_below_drewN | apply below_drew1) | exact HB.out)⟩
          · replace c14 := Bool.eq_false_iff.mpr c14
            subst c14
            have H1 : ((laws_r8At.f l0 1 (t329.length : Int)).bind fun t333 => ((laws_r8At.f l0 2 3).bind fun t334 => ((impl_WrongBehind.f kj8 t327 tj0_ t333 (wrap64 (t334 - 1))).bind fun bt335 => (if 0 ≤ t333 then (if t333 < (t329.length : Int) then (if (bt335.2 != ((rd t329 t333) != (wrap64 (t334 - 1)))) = true then (some false) else ((some (([] : List Int) : List Int)).bind fun y338 => (if y338.length + t329.length < 17592186044416 then ((some (y338 ++ t329 : List Int)).bind fun y341 => (if t333 < (y341.length : Int) then ((some (y341.set (t333 : Int).toNat (wrap64 (t334 - 1)) : List Int)).bind fun y344 => ((impl_ReadLevels.f kj8 t327 y344).bind fun bt345 => (if bt345.2 = true then (laws_FnWrongLevels.j1 kj8 t327 tj0_ bt335.1 bt335.2 y344 bt345.1 ((bt345.1.size : Int) != (tj0_.size : Int))) else (laws_FnWrongLevels.j1 kj8 t327 tj0_ bt335.1 bt335.2 y344 bt345.1 true)))) else (none))) else (none)))) else (none)) else (none))))) = some r := by rw [if_neg (show ¬ (false = true) by decide)] at H; exact H
            clear H
            have H := H1
            clear H1
            replace H := Option.bind_eq_some_iff.mp H
            obtain ⟨t333, A150, H⟩ := H
            replace H : ((laws_r8At.f l0 2 3).bind fun t334 => ((impl_WrongBehind.f kj8 t327 tj0_ t333 (wrap64 (t334 - 1))).bind fun bt335 => (if 0 ≤ t333 then (if t333 < (t329.length : Int) then (if (bt335.2 != ((rd t329 t333) != (wrap64 (t334 - 1)))) = true then (some false) else ((some (([] : List Int) : List Int)).bind fun y338 => (if y338.length + t329.length < 17592186044416 then ((some (y338 ++ t329 : List Int)).bind fun y341 => (if t333 < (y341.length : Int) then ((some (y341.set (t333 : Int).toNat (wrap64 (t334 - 1)) : List Int)).bind fun y344 => ((impl_ReadLevels.f kj8 t327 y344).bind fun bt345 => (if bt345.2 = true then (laws_FnWrongLevels.j1 kj8 t327 tj0_ bt335.1 bt335.2 y344 bt345.1 ((bt345.1.size : Int) != (tj0_.size : Int))) else (laws_FnWrongLevels.j1 kj8 t327 tj0_ bt335.1 bt335.2 y344 bt345.1 true)))) else (none))) else (none)))) else (none)) else (none)))) = some r := H
            have A15 := Aside0.mk A150
            clear A150
            replace H := Option.bind_eq_some_iff.mp H
            obtain ⟨t334, A160, H⟩ := H
            replace H : ((impl_WrongBehind.f kj8 t327 tj0_ t333 (wrap64 (t334 - 1))).bind fun bt335 => (if 0 ≤ t333 then (if t333 < (t329.length : Int) then (if (bt335.2 != ((rd t329 t333) != (wrap64 (t334 - 1)))) = true then (some false) else ((some (([] : List Int) : List Int)).bind fun y338 => (if y338.length + t329.length < 17592186044416 then ((some (y338 ++ t329 : List Int)).bind fun y341 => (if t333 < (y341.length : Int) then ((some (y341.set (t333 : Int).toNat (wrap64 (t334 - 1)) : List Int)).bind fun y344 => ((impl_ReadLevels.f kj8 t327 y344).bind fun bt345 => (if bt345.2 = true then (laws_FnWrongLevels.j1 kj8 t327 tj0_ bt335.1 bt335.2 y344 bt345.1 ((bt345.1.size : Int) != (tj0_.size : Int))) else (laws_FnWrongLevels.j1 kj8 t327 tj0_ bt335.1 bt335.2 y344 bt345.1 true)))) else (none))) else (none)))) else (none)) else (none))) = some r := H
            have A16 := Aside0.mk A160
            clear A160
            replace H := Option.bind_eq_some_iff.mp H
            obtain ⟨⟨t335, t336⟩, A170, H⟩ := H
            replace H : (if 0 ≤ t333 then (if t333 < (t329.length : Int) then (if (t336 != ((rd t329 t333) != (wrap64 (t334 - 1)))) = true then (some false) else ((some (([] : List Int) : List Int)).bind fun y338 => (if y338.length + t329.length < 17592186044416 then ((some (y338 ++ t329 : List Int)).bind fun y341 => (if t333 < (y341.length : Int) then ((some (y341.set (t333 : Int).toNat (wrap64 (t334 - 1)) : List Int)).bind fun y344 => ((impl_ReadLevels.f kj8 t327 y344).bind fun bt345 => (if bt345.2 = true then (laws_FnWrongLevels.j1 kj8 t327 tj0_ t335 t336 y344 bt345.1 ((bt345.1.size : Int) != (tj0_.size : Int))) else (laws_FnWrongLevels.j1 kj8 t327 tj0_ t335 t336 y344 bt345.1 true)))) else (none))) else (none)))) else (none)) else (none)) = some r := H
            have A17 := Aside0.mk A170
            clear A170
            by_cases c18 : 0 ≤ t333
            · rw [if_pos c18] at H
              have c18b0 : decide (0 ≤ t333) = true := decide_eq_true c18
              clear c18
              by_cases c19 : t333 < (t329.length : Int)
              · rw [if_pos c19] at H
                have c19b0 : decide (t333 < (t329.length : Int)) = true := decide_eq_true c19
                clear c19
                by_cases c20 : (t336 != ((rd t329 t333) != (wrap64 (t334 - 1)))) = true
                · rw [if_pos c20] at H
                  have c20b0 : (t336 != ((rd t329 t333) != (wrap64 (t334 - 1)))) = true := c20
                  (try (have c20b1 : decide (t336 = ((rd t329 t333) != (wrap64 (t334 - 1)))) = false := by simpa using c20))
                  (try (have c20b2 : (t336 == ((rd t329 t333) != (wrap64 (t334 - 1)))) = false := by simpa using c20))
                  (try (have c20b3 : ¬ (t336 = ((rd t329 t333) != (wrap64 (t334 - 1)))) := by simpa using c20))
                  clear c20
                  obtain rfl := Option.some.inj H
                  obtain ⟨Ao21, co21, eo21⟩ := Kd.R_slice HO_7.out
                  subst eo21
                  go_wp2_with (first | (go_at_call 12; (with_reducible refine (laws_r8At.calls _ _ l0 1 (t329.length : Int) t333 _ ?side1 ?side2 A15.out).mono ?_); (case side1 => repeat (first | exact (Kd.C_below HR0.out HB.out) | (with_reducible refine Kd.C_alloc ?_ _) | (with_reducible refine Kd.C_drewN ?_ _) | (with_reducible refine Kd.C_drew ?_))); (case side2 => exact HC0.out); rintro e w' ⟨rfl, ⟨nd, rfl⟩⟩; (try first | exact ⟨rfl, _, World.drewN_drewN _ _ _⟩ | exact ⟨rfl, _, Eq.trans (World.drewN_drewN _ _ _) (congrArg (World.drewN _) (Nat.add_assoc _ _ _))⟩)) | (go_at_call 12; (with_reducible refine (laws_r8At.calls _ _ l0 2 3 t334 _ ?side1 ?side2 A16.out).mono ?_); (case side1 => repeat (first | exact (Kd.C_below HR0.out (by repeat (first | (with_reducible first | exact HB.out | apply below_alloc | apply pw_below_drewN | apply below_drew1) | exact HB.out))) | (with_reducible refine Kd.C_alloc ?_ _) | (with_reducible refine Kd.C_drewN ?_ _) | (with_reducible refine Kd.C_drew ?_))); (case side2 => exact HC0.out); rintro e w' ⟨rfl, ⟨nd, rfl⟩⟩; (try first | exact ⟨rfl, _, World.drewN_drewN _ _ _⟩ | exact ⟨rfl, _, Eq.trans (World.drewN_drewN _ _ _) (congrArg (World.drewN _) (Nat.add_assoc _ _ _))⟩)) | (go_at_call 15; (with_reducible refine (impl_WrongBehind.calls kj8 t327 tj0_ t333 (wrap64 (t334 - 1)) t335 t336 _ A17.out).mono ?_); rintro e w22 ⟨rfl, hb⟩; have n0_ := Aside0.mk (Kd.R_below (by (with_reducible repeat (first | apply Kd.R_alloc | apply Kd.R_drewN | apply Kd.R_drew)); exact HO_7.out) hb); have n1_ := Aside0.mk (below_step (by repeat (first | (with_reducible first | exact HB.out | apply below_alloc | apply pw_below_drewN | apply below_drew1) | exact HB.out)) hb); clear HO_7; clear HB; have HO_7 := n0_; have HB := n1_; clear n0_ n1_; (try clear hb); (try clear hb2); (try clear hk); (try clear hi); have p337 : 0 ≤ (t333 : Int) := of_decide_eq_true (by first | (with_reducible assumption) | assumption); have q337 : t333 < (t329.length : Int) := of_decide_eq_true (by first | (with_reducible assumption) | assumption); obtain ⟨ad337, e337, hx337_0⟩ := Kd.at_int (Kd.R_reads' HO_7.out).2.2 t333 p337 q337; cases e337; replace p337 := eq_true p337; replace q337 := eq_true q337))
                  repeat (go_quiet (first | (go_at_call 12; (with_reducible refine (laws_r8At.calls _ _ l0 1 (t329.length : Int) t333 _ ?side1 ?side2 A15.out).mono ?_); (case side1 => repeat (first | exact (Kd.C_below HR0.out HB.out) | (with_reducible refine Kd.C_alloc ?_ _) | (with_reducible refine Kd.C_drewN ?_ _) | (with_reducible refine Kd.C_drew ?_))); (case side2 => exact HC0.out); rintro e w' ⟨rfl, ⟨nd, rfl⟩⟩; (try first | exact ⟨rfl, _, World.drewN_drewN _ _ _⟩ | exact ⟨rfl, _, Eq.trans (World.drewN_drewN _ _ _) (congrArg (World.drewN _) (Nat.add_assoc _ _ _))⟩)) | (go_at_call 12; (with_reducible refine (laws_r8At.calls _ _ l0 2 3 t334 _ ?side1 ?side2 A16.out).mono ?_); (case side1 => repeat (first | exact (Kd.C_below HR0.out (by repeat (first | (with_reducible first | exact HB.out | apply below_alloc | apply pw_below_drewN | apply below_drew1) | exact HB.out))) | (with_reducible refine Kd.C_alloc ?_ _) | (with_reducible refine Kd.C_drewN ?_ _) | (with_reducible refine Kd.C_drew ?_))); (case side2 => exact HC0.out); rintro e w' ⟨rfl, ⟨nd, rfl⟩⟩; (try first | exact ⟨rfl, _, World.drewN_drewN _ _ _⟩ | exact ⟨rfl, _, Eq.trans (World.drewN_drewN _ _ _) (congrArg (World.drewN _) (Nat.add_assoc _ _ _))⟩)) | (go_at_call 15; (with_reducible refine (impl_WrongBehind.calls kj8 t327 tj0_ t333 (wrap64 (t334 - 1)) t335 t336 _ A17.out).mono ?_); rintro e w22 ⟨rfl, hb⟩; have n0_ := Aside0.mk (Kd.R_below (by (with_reducible repeat (first | apply Kd.R_alloc | apply Kd.R_drewN | apply Kd.R_drew)); exact HO_7.out) hb); have n1_ := Aside0.mk (below_step (by repeat (first | (with_reducible first | exact HB.out | apply below_alloc | apply pw_below_drewN | apply below_drew1) | exact HB.out)) hb); clear HO_7; clear HB; have HO_7 := n0_; have HB := n1_; clear n0_ n1_; (try clear hb); (try clear hb2); (try clear hk); (try clear hi); have p337 : 0 ≤ (t333 : Int) := of_decide_eq_true (by first | (with_reducible assumption) | assumption); have q337 : t333 < (t329.length : Int) := of_decide_eq_true (by first | (with_reducible assumption) | assumption); obtain ⟨ad337, e337, hx337_0⟩ := Kd.at_int (Kd.R_reads' HO_7.out).2.2 t333 p337 q337; cases e337; replace p337 := eq_true p337; replace q337 := eq_true q337)); try go_wp2_with (first | (go_at_call 12; (with_reducible refine (laws_r8At.calls _ _ l0 1 (t329.length : Int) t333 _ ?side1 ?side2 A15.out).mono ?_); (case side1 => repeat (first | exact (Kd.C_below HR0.out HB.out) | (with_reducible refine Kd.C_alloc ?_ _) | (with_reducible refine Kd.C_drewN ?_ _) | (with_reducible refine Kd.C_drew ?_))); (case side2 => exact HC0.out); rintro e w' ⟨rfl, ⟨nd, rfl⟩⟩; (try first | exact ⟨rfl, _, World.drewN_drewN _ _ _⟩ | exact ⟨rfl, _, Eq.trans (World.drewN_drewN _ _ _) (congrArg (World.drewN _) (Nat.add_assoc _ _ _))⟩)) | (go_at_call 12; (with_reducible refine (laws_r8At.calls _ _ l0 2 3 t334 _ ?side1 ?side2 A16.out).mono ?_); (case side1 => repeat (first | exact (Kd.C_below HR0.out (by repeat (first | (with_reducible first | exact HB.out | apply below_alloc | apply pw_below_drewN | apply below_drew1) | exact HB.out))) | (with_reducible refine Kd.C_alloc ?_ _) | (with_reducible refine Kd.C_drewN ?_ _) | (with_reducible refine Kd.C_drew ?_))); (case side2 => exact HC0.out); rintro e w' ⟨rfl, ⟨nd, rfl⟩⟩; (try first | exact ⟨rfl, _, World.drewN_drewN _ _ _⟩ | exact ⟨rfl, _, Eq.trans (World.drewN_drewN _ _ _) (congrArg (World.drewN _) (Nat.add_assoc _ _ _))⟩)) | (go_at_call 15; (with_reducible refine (impl_WrongBehind.calls kj8 t327 tj0_ t333 (wrap64 (t334 - 1)) t335 t336 _ A17.out).mono ?_); rintro e w22 ⟨rfl, hb⟩; have n0_ := Aside0.mk (Kd.R_below (by (with_reducible repeat (first | apply Kd.R_alloc | apply Kd.R_drewN | apply Kd.R_drew)); exact HO_7.out) hb); have n1_ := Aside0.mk (below_step (by repeat (first | (with_reducible first | exact HB.out | apply below_alloc | apply pw_below_drewN | apply below_drew1) | exact HB.out)) hb); clear HO_7; clear HB; have HO_7 := n0_; have HB := n1_; clear n0_ n1_; (try clear hb); (try clear hb2); (try clear hk); (try clear hi); have p337 : 0 ≤ (t333 : Int) := of_decide_eq_true (by first | (with_reducible assumption) | assumption); have q337 : t333 < (t329.length : Int) := of_decide_eq_true (by first | (with_reducible assumption) | assumption); obtain ⟨ad337, e337, hx337_0⟩ := Kd.at_int (Kd.R_reads' HO_7.out).2.2 t333 p337 q337; cases e337; replace p337 := eq_true p337; replace q337 := eq_true q337)))
                  go_ret
                  exact ⟨by first | rfl | (simp [errW_none, errW_some] <;> rfl) | (simp [*, errW_none, errW_some] <;> rfl), by repeat (first | (with_reducible first | exact HB.out | apply below_alloc | apply pw_below_drewN | apply below_drew1) | exact HB.out)⟩
                · rw [if_neg c20] at H
                  have c20b0 : (t336 != ((rd t329 t333) != (wrap64 (t334 - 1)))) = false := by simpa using c20
                  (try (have c20b1 : decide (t336 = ((rd t329 t333) != (wrap64 (t334 - 1)))) = true := by simpa using c20))
                  (try (have c20b2 : (t336 == ((rd t329 t333) != (wrap64 (t334 - 1)))) = true := by simpa using c20))
                  clear c20
                  obtain ⟨y338, hy338⟩ : ∃ y_ : List Int, y_ = (([] : List Int)) := ⟨_, rfl⟩
                  replace H : (if y338.length + t329.length < 17592186044416 then ((some (y338 ++ t329 : List Int)).bind fun y341 => (if t333 < (y341.length : Int) then ((some (y341.set (t333 : Int).toNat (wrap64 (t334 - 1)) : List Int)).bind fun y344 => ((impl_ReadLevels.f kj8 t327 y344).bind fun bt345 => (if bt345.2 = true then (laws_FnWrongLevels.j1 kj8 t327 tj0_ t335 t336 y344 bt345.1 ((bt345.1.size : Int) != (tj0_.size : Int))) else (laws_FnWrongLevels.j1 kj8 t327 tj0_ t335 t336 y344 bt345.1 true)))) else (none))) else (none)) = some r := by first | (rw [hy338]; with_reducible exact H) | (have H2_ := (Option.bind_some _ _).symm.trans H; rw [hy338]; with_reducible exact H2_) | (have H2_ := (Option.bind_some _ _).symm.trans H; with_reducible exact H2_) | with_reducible exact H | (rw [hy338]; exact H) | exact H
                  have Ny338 := Aside0.mk hy338
                  clear hy338
                  by_cases c23 : y338.length + t329.length < 17592186044416
                  · rw [if_pos c23] at H
                    have LMc23 := Aside0.mk c23
                    clear c23
                    obtain ⟨y341, hy341⟩ : ∃ y_ : List Int, y_ = (y338 ++ t329) := ⟨_, rfl⟩
                    replace H : (if t333 < (y341.length : Int) then ((some (y341.set (t333 : Int).toNat (wrap64 (t334 - 1)) : List Int)).bind fun y344 => ((impl_ReadLevels.f kj8 t327 y344).bind fun bt345 => (if bt345.2 = true then (laws_FnWrongLevels.j1 kj8 t327 tj0_ t335 t336 y344 bt345.1 ((bt345.1.size : Int) != (tj0_.size : Int))) else (laws_FnWrongLevels.j1 kj8 t327 tj0_ t335 t336 y344 bt345.1 true)))) else (none)) = some r := by first | (rw [hy341]; with_reducible exact H) | (have H2_ := (Option.bind_some _ _).symm.trans H; rw [hy341]; with_reducible exact H2_) | (have H2_ := (Option.bind_some _ _).symm.trans H; with_reducible exact H2_) | with_reducible exact H | (rw [hy341]; exact H) | exact H
                    have Ny341 := Aside0.mk hy341
                    clear hy341
                    by_cases c24 : t333 < (y341.length : Int)
                    · rw [if_pos c24] at H
                      have c24b0 : decide (t333 < (y341.length : Int)) = true := decide_eq_true c24
                      clear c24
                      obtain ⟨y344, hy344⟩ : ∃ y_ : List Int, y_ = (y341.set (t333 : Int).toNat (wrap64 (t334 - 1))) := ⟨_, rfl⟩
                      replace H : ((impl_ReadLevels.f kj8 t327 y344).bind fun bt345 => (if bt345.2 = true then (laws_FnWrongLevels.j1 kj8 t327 tj0_ t335 t336 y344 bt345.1 ((bt345.1.size : Int) != (tj0_.size : Int))) else (laws_FnWrongLevels.j1 kj8 t327 tj0_ t335 t336 y344 bt345.1 true))) = some r := by first | (rw [hy344]; with_reducible exact H) | (have H2_ := (Option.bind_some _ _).symm.trans H; rw [hy344]; with_reducible exact H2_) | (have H2_ := (Option.bind_some _ _).symm.trans H; with_reducible exact H2_) | with_reducible exact H | (rw [hy344]; exact H) | exact H
                      have Ny344 := Aside0.mk hy344
                      clear hy344
                      replace H := Option.bind_eq_some_iff.mp H
                      obtain ⟨⟨t345, t346⟩, A260, H⟩ := H
                      replace H : (if t346 = true then (laws_FnWrongLevels.j1 kj8 t327 tj0_ t335 t336 y344 t345 ((t345.size : Int) != (tj0_.size : Int))) else (laws_FnWrongLevels.j1 kj8 t327 tj0_ t335 t336 y344 t345 true)) = some r := H
                      have A26 := Aside0.mk A260
                      clear A260
                      have HC27 := Aside0.mk H
                      clear H
                      obtain ⟨Ao28, co28, eo28⟩ := Kd.R_slice HO_7.out
                      subst eo28
                      go_upto_region 16 with (first | (go_at_call 12; (with_reducible refine (laws_r8At.calls _ _ l0 1 (t329.length : Int) t333 _ ?side1 ?side2 A15.out).mono ?_); (case side1 => repeat (first | exact (Kd.C_below HR0.out HB.out) | (with_reducible refine Kd.C_alloc ?_ _) | (with_reducible refine Kd.C_drewN ?_ _) | (with_reducible refine Kd.C_drew ?_))); (case side2 => exact HC0.out); rintro e w' ⟨rfl, ⟨nd, rfl⟩⟩; (try first | exact ⟨rfl, _, World.drewN_drewN _ _ _⟩ | exact ⟨rfl, _, Eq.trans (World.drewN_drewN _ _ _) (congrArg (World.drewN _) (Nat.add_assoc _ _ _))⟩)) | (go_at_call 12; (with_reducible refine (laws_r8At.calls _ _ l0 2 3 t334 _ ?side1 ?side2 A16.out).mono ?_); (case side1 => repeat (first | exact (Kd.C_below HR0.out (by repeat (first | (with_reducible first | exact HB.out | apply below_alloc | apply pw_below_drewN | apply below_drew1) | exact HB.out))) | (with_reducible refine Kd.C_alloc ?_ _) | (with_reducible refine Kd.C_drewN ?_ _) | (with_reducible refine Kd.C_drew ?_))); (case side2 => exact HC0.out); rintro e w' ⟨rfl, ⟨nd, rfl⟩⟩; (try first | exact ⟨rfl, _, World.drewN_drewN _ _ _⟩ | exact ⟨rfl, _, Eq.trans (World.drewN_drewN _ _ _) (congrArg (World.drewN _) (Nat.add_assoc _ _ _))⟩)) | (go_at_call 15; (with_reducible refine (impl_WrongBehind.calls kj8 t327 tj0_ t333 (wrap64 (t334 - 1)) t335 t336 _ A17.out).mono ?_); rintro e w29 ⟨rfl, hb⟩; have n0_ := Aside0.mk (Kd.R_below (by (with_reducible repeat (first | apply Kd.R_alloc | apply Kd.R_drewN | apply Kd.R_drew)); exact HO_7.out) hb); have n1_ := Aside0.mk (below_step (by repeat (first | (with_reducible first | exact HB.out | apply below_alloc | apply pw_below_drewN | apply below_drew1) | exact HB.out)) hb); clear HO_7; clear HB; have HO_7 := n0_; have HB := n1_; clear n0_ n1_; (try clear hb); (try clear hb2); (try clear hk); (try clear hi); have p337 : 0 ≤ (t333 : Int) := of_decide_eq_true (by first | (with_reducible assumption) | assumption); have q337 : t333 < (t329.length : Int) := of_decide_eq_true (by first | (with_reducible assumption) | assumption); obtain ⟨ad337, e337, hx337_0⟩ := Kd.at_int (Kd.R_reads' HO_7.out).2.2 t333 p337 q337; cases e337; replace p337 := eq_true p337; replace q337 := eq_true q337) | ((with_reducible refine gate_dst (N := 72) rfl ?_); (try (refine gate_guard (by rfl) ?_; dsimp only)); refine Kd.R_lit (Kd.int .i64) _ 2 ?hg (N := 72) ?hd (xs := ([] : List Int)) (inner := []) (ok := fun _ => True) (okp := fun _ => True) ?hr ?hp (fun _ hk => hk) trivial (Below.refl _ _) (Nat.le_refl _) (by simp) ?_; (case hd => rfl); (case hg => rfl); (case hr => first | (go_simp; done) | (go_simp; rfl)); (case hp => exact (Reps.none _ _)); intro v339 w30 ho31 hb hg_ hnew_; clear hg_ hnew_; (first | rw [← Ny338.out] at ho31 | (simp only [Int.reduceToNat] at ho31; rw [← Ny338.out] at ho31)); have n0_ := Aside0.mk (Kd.R_elder' (by (with_reducible repeat (first | apply Kd.R_alloc | apply Kd.R_drewN | apply Kd.R_drew)); exact HO_7.out) (Kd.R_base ho31) hb); have n1_ := Aside0.mk (Kd.R_lower (Kd.R_new' ho31 (Kd.R_lt (by (with_reducible repeat (first | apply Kd.R_alloc | apply Kd.R_drewN | apply Kd.R_drew)); exact HO_7.out))) (below_size (by repeat (first | (with_reducible first | exact HB.out | apply below_alloc | apply pw_below_drewN | apply below_drew1) | exact HB.out)))); have n2_ := Aside0.mk (below_step (by repeat (first | (with_reducible first | exact HB.out | apply below_alloc | apply pw_below_drewN | apply below_drew1) | exact HB.out)) hb); clear HO_7; clear HB; have HO_7 := n0_; have HO340 := n1_; have HB := n2_; clear n0_ n1_ n2_; clear hb ho31) | ((with_reducible refine gate_builtin (b := .append) (xs := #[.tmp 72, .tmp 73]) rfl ?_); (try (refine gate_guard (by rfl) ?_; dsimp only)); at_builtin; refine Kd.R_append_rows (Kd.int .i64) (w0 := w) w.heap.size rfl (.tmp 72) (.tmp 73) 29 2 (.int .i64 0) 8 rfl Tryd.underlying29 info2 rfl (by decide) (by omega) v339 y338 t329 _ _ _ (fun k_ => some k_ ≠ (.slice (some ad337) t329.length co28 : Value).ownBlock) (fun _ => False) rfl rfl ?aO ?aR (fun _ _ h => h) (fun _ h => h.elim) ?aF ?aB ?aS ?aL ?_; (case aR => repeat (first | exact (Kd.R_reads' HO_7.out).2.2 | (with_reducible refine Kd.C_alloc ?_ _) | (with_reducible refine Kd.C_drewN ?_ _) | (with_reducible refine Kd.C_drew ?_))); (case aB => exact (by repeat (first | (with_reducible first | exact HB.out | apply below_alloc | apply pw_below_drewN | apply below_drew1) | exact HB.out))); (case aF => exact (fun k_ hk => Kd.fresh' (Kd.R_lt (by (with_reducible repeat (first | apply Kd.R_alloc | apply Kd.R_drewN | apply Kd.R_drew)); exact HO_7.out)) k_ hk)); (case aO => exact (by (with_reducible repeat (first | apply Kd.R_alloc | apply Kd.R_drewN | apply Kd.R_drew)); exact Kd.R_mono HO340.out (fun _ hk => hk.2))); (case aS => exact (below_size (by repeat (first | (with_reducible first | exact HB.out | apply below_alloc | apply pw_below_drewN | apply below_drew1) | exact HB.out)))); (case aL => have := LMc23.out; omega); intro v342 w32 ho hb hg hat; rw [← Ny341.out] at ho; have n0_ := Aside0.mk (Kd.R_after (ok := (fun _ => True)) (by (with_reducible repeat (first | apply Kd.R_alloc | apply Kd.R_drewN | apply Kd.R_drew)); exact HO_7.out) hg hat); have n1_ := Aside0.mk (hb); have n2_ := Aside0.mk (ho); clear HO_7; clear HB; clear HO340; have HO_7 := n0_; have HB := n1_; have HO343 := n2_; clear n0_ n1_ n2_; clear ho hb hg hat; have p25 : 0 ≤ (t333 : Int) := of_decide_eq_true (by first | (with_reducible assumption) | assumption); have q25 : (t333 : Int) < ((y341.length : Int) : Int) := of_decide_eq_true (by first | (with_reducible assumption) | assumption); obtain ⟨go25, co25, eo25, gb25, gl25, cl25, HG25⟩ := Kd.R_form HO343.out (by omega); (first | cases eo25 | (injection eo25 with ea_ en_ ec_; (first | subst ea_ | (injection ea_ with ea_; subst ea_)); subst ec_; clear en_)); have GB25 := Aside0.mk gb25; have GG25 := Aside0.mk HG25; clear gb25 gl25 HG25; obtain ⟨hx25_0, hf25_0⟩ := Kd.R_celln 0 HO343.out (t333 : Int) p25 q25; replace p25 := eq_true p25; replace q25 := eq_true q25; obtain ⟨hy33_, hz33_⟩ := Kd.R_celln 0 HO343.out (t333 : Int) (of_decide_eq_true (by first | (with_reducible assumption) | assumption)) (of_decide_eq_true (by first | (with_reducible assumption) | assumption)); have HP33 := Kd.R_putg HO343.out (t333 : Int) (wrap64 (t334 - 1))) | ((with_reducible refine gate_store (t := 2) (p := 78) rfl ?_); (try (rw [drewN_self w32]; generalize hq_ : World.drewN w32 _ = w32; have n0_ := Aside0.mk (Kd.R_at hq_ HO_7.out); have n1_ := Aside0.mk (Kd.R_at hq_ HO343.out); have n2_ := Aside0.mk (below_at hq_ HB.out); clear hq_ HO_7 HO343 HB; have HO_7 := n0_; have HO343 := n1_; have HB := n2_; clear n0_ n1_ n2_; (try (obtain ⟨hy33_, hz33_⟩ := Kd.R_celln 0 HO343.out (t333 : Int) (of_decide_eq_true (by first | (with_reducible assumption) | assumption)) (of_decide_eq_true (by first | (with_reducible assumption) | assumption)))); (try (have HP33 := Kd.R_putg HO343.out (t333 : Int) (wrap64 (t334 - 1)))))); refine store_event (t := 2) (p := 78) (v := ?vo_w34) (w1 := (w32.setCell ⟨go25, (t333 : Int).toNat, none⟩ (.int .i64 (wrap64 (t334 - 1))))) ?hg ?ho ?hn ?hr ?_; (case ho => rfl); (case hg => rfl); (case hn => rfl); (case hr => first | (go_simp; done) | (go_simp; rfl)); intro w34 hw; have hg : w32.grownBy w34 (some go25) := (by rw [hw]; exact HP33.2); have hp_ : Kd.R (Kd.int .i64) 2 w34 w.heap.size (fun k_ => some k_ ≠ (.slice (some ad337) t329.length co28 : Value).ownBlock) (.slice (some ⟨go25, 0, none⟩) y341.length co25) y344 := (by rw [hw, Ny344.out]; exact HP33.1); clear HP33; have n0_ := Aside0.mk (Kd.R_after (v := (.slice (some ⟨go25, 0, none⟩) y341.length co25)) (v1 := (.slice (some ⟨go25, 0, none⟩) y341.length co25)) (ok := (fun _ => True)) (by (with_reducible repeat (first | apply Kd.R_alloc | apply Kd.R_drewN | apply Kd.R_drew)); exact HO_7.out) hg (.inl rfl)); have n1_ := Aside0.mk (hp_); have n2_ := Aside0.mk ((by rw [hw]; exact below_set (HB.out) GB25.out : Below w.heap.size w w34)); clear HO_7; clear HO343; clear HB; have HO_7 := n0_; have HO343 := n1_; have HB := n2_; clear n0_ n1_ n2_; clear hg hw hp_) | (go_at_call 16; refine calls_of_args (args' := #[.int .i64 t327, .slice (some ⟨go25, 0, none⟩) y344.length co25]) (by first | (rw [show y344.length = y341.length from (Kd.R_reads' HO343.out).1.symm] <;> rfl) | rfl) ?_; (with_reducible refine (impl_ReadLevels.calls kj8 t327 _ _ y344 t345 t346 _ ?side1 ?side2 A26.out).mono ?_); (case side1 => repeat (first | exact (Kd.R_reads' HO343.out).2.2 | (with_reducible refine Kd.C_alloc ?_ _) | (with_reducible refine Kd.C_drewN ?_ _) | (with_reducible refine Kd.C_drew ?_))); (case side2 => rw [show y344.length = y341.length from (Kd.R_reads' HO343.out).1.symm]; exact (Kd.R_reads' HO343.out).2.1); rintro e w35 ⟨rfl, hb⟩; have n0_ := Aside0.mk (Kd.R_below (by (with_reducible repeat (first | apply Kd.R_alloc | apply Kd.R_drewN | apply Kd.R_drew)); exact HO_7.out) hb); have n1_ := Aside0.mk (Kd.R_below (by (with_reducible repeat (first | apply Kd.R_alloc | apply Kd.R_drewN | apply Kd.R_drew)); exact HO343.out) hb); have n2_ := Aside0.mk (below_step (by repeat (first | (with_reducible first | exact HB.out | apply below_alloc | apply pw_below_drewN | apply below_drew1) | exact HB.out)) hb); clear HO_7; clear HO343; clear HB; have HO_7 := n0_; have HO343 := n1_; have HB := n2_; clear n0_ n1_ n2_; (try clear hb); (try clear hb2); (try clear hk); (try clear hi)))
                      repeat (go_quiet (first | (go_at_call 12; (with_reducible refine (laws_r8At.calls _ _ l0 1 (t329.length : Int) t333 _ ?side1 ?side2 A15.out).mono ?_); (case side1 => repeat (first | exact (Kd.C_below HR0.out HB.out) | (with_reducible refine Kd.C_alloc ?_ _) | (with_reducible refine Kd.C_drewN ?_ _) | (with_reducible refine Kd.C_drew ?_))); (case side2 => exact HC0.out); rintro e w' ⟨rfl, ⟨nd, rfl⟩⟩; (try first | exact ⟨rfl, _, World.drewN_drewN _ _ _⟩ | exact ⟨rfl, _, Eq.trans (World.drewN_drewN _ _ _) (congrArg (World.drewN _) (Nat.add_assoc _ _ _))⟩)) | (go_at_call 12; (with_reducible refine (laws_r8At.calls _ _ l0 2 3 t334 _ ?side1 ?side2 A16.out).mono ?_); (case side1 => repeat (first | exact (Kd.C_below HR0.out (by repeat (first | (with_reducible first | exact HB.out | apply below_alloc | apply pw_below_drewN | apply below_drew1) | exact HB.out))) | (with_reducible refine Kd.C_alloc ?_ _) | (with_reducible refine Kd.C_drewN ?_ _) | (with_reducible refine Kd.C_drew ?_))); (case side2 => exact HC0.out); rintro e w' ⟨rfl, ⟨nd, rfl⟩⟩; (try first | exact ⟨rfl, _, World.drewN_drewN _ _ _⟩ | exact ⟨rfl, _, Eq.trans (World.drewN_drewN _ _ _) (congrArg (World.drewN _) (Nat.add_assoc _ _ _))⟩)) | (go_at_call 15; (with_reducible refine (impl_WrongBehind.calls kj8 t327 tj0_ t333 (wrap64 (t334 - 1)) t335 t336 _ A17.out).mono ?_); rintro e w29 ⟨rfl, hb⟩; have n0_ := Aside0.mk (Kd.R_below (by (with_reducible repeat (first | apply Kd.R_alloc | apply Kd.R_drewN | apply Kd.R_drew)); exact HO_7.out) hb); have n1_ := Aside0.mk (below_step (by repeat (first | (with_reducible first | exact HB.out | apply below_alloc | apply pw_below_drewN | apply below_drew1) | exact HB.out)) hb); clear HO_7; clear HB; have HO_7 := n0_; have HB := n1_; clear n0_ n1_; (try clear hb); (try clear hb2); (try clear hk); (try clear hi); have p337 : 0 ≤ (t333 : Int) := of_decide_eq_true (by first | (with_reducible assumption) | assumption); have q337 : t333 < (t329.length : Int) := of_decide_eq_true (by first | (with_reducible assumption) | assumption); obtain ⟨ad337, e337, hx337_0⟩ := Kd.at_int (Kd.R_reads' HO_7.out).2.2 t333 p337 q337; cases e337; replace p337 := eq_true p337; replace q337 := eq_true q337) | ((with_reducible refine gate_dst (N := 72) rfl ?_); (try (refine gate_guard (by rfl) ?_; dsimp only)); refine Kd.R_lit (Kd.int .i64) _ 2 ?hg (N := 72) ?hd (xs := ([] : List Int)) (inner := []) (ok := fun _ => True) (okp := fun _ => True) ?hr ?hp (fun _ hk => hk) trivial (Below.refl _ _) (Nat.le_refl _) (by simp) ?_; (case hd => rfl); (case hg => rfl); (case hr => first | (go_simp; done) | (go_simp; rfl)); (case hp => exact (Reps.none _ _)); intro v339 w30 ho31 hb hg_ hnew_; clear hg_ hnew_; (first | rw [← Ny338.out] at ho31 | (simp only [Int.reduceToNat] at ho31; rw [← Ny338.out] at ho31)); have n0_ := Aside0.mk (Kd.R_elder' (by (with_reducible repeat (first | apply Kd.R_alloc | apply Kd.R_drewN | apply Kd.R_drew)); exact HO_7.out) (Kd.R_base ho31) hb); have n1_ := Aside0.mk (Kd.R_lower (Kd.R_new' ho31 (Kd.R_lt (by (with_reducible repeat (first | apply Kd.R_alloc | apply Kd.R_drewN | apply Kd.R_drew)); exact HO_7.out))) (below_size (by repeat (first | (with_reducible first | exact HB.out | apply below_alloc | apply pw_below_drewN | apply below_drew1) | exact HB.out)))); have n2_ := Aside0.mk (below_step (by repeat (first | (with_reducible first | exact HB.out | apply below_alloc | apply pw_below_drewN | apply below_drew1) | exact HB.out)) hb); clear HO_7; clear HB; have HO_7 := n0_; have HO340 := n1_; have HB := n2_; clear n0_ n1_ n2_; clear hb ho31) | ((with_reducible refine gate_builtin (b := .append) (xs := #[.tmp 72, .tmp 73]) rfl ?_); (try (refine gate_guard (by rfl) ?_; dsimp only)); at_builtin; refine Kd.R_append_rows (Kd.int .i64) (w0 := w) w.heap.size rfl (.tmp 72) (.tmp 73) 29 2 (.int .i64 0) 8 rfl Tryd.underlying29 info2 rfl (by decide) (by omega) v339 y338 t329 _ _ _ (fun k_ => some k_ ≠ (.slice (some ad337) t329.length co28 : Value).ownBlock) (fun _ => False) rfl rfl ?aO ?aR (fun _ _ h => h) (fun _ h => h.elim) ?aF ?aB ?aS ?aL ?_; (case aR => repeat (first | exact (Kd.R_reads' HO_7.out).2.2 | (with_reducible refine Kd.C_alloc ?_ _) | (with_reducible refine Kd.C_drewN ?_ _) | (with_reducible refine Kd.C_drew ?_))); (case aB => exact (by repeat (first | (with_reducible first | exact HB.out | apply below_alloc | apply pw_below_drewN | apply below_drew1) | exact HB.out))); (case aF => exact (fun k_ hk => Kd.fresh' (Kd.R_lt (by (with_reducible repeat (first | apply Kd.R_alloc | apply Kd.R_drewN | apply Kd.R_drew)); exact HO_7.out)) k_ hk)); (case aO => exact (by (with_reducible repeat (first | apply Kd.R_alloc | apply Kd.R_drewN | apply Kd.R_drew)); exact Kd.R_mono HO340.out (fun _ hk => hk.2))); (case aS => exact (below_size (by repeat (first | (with_reducible first | exact HB.out | apply below_alloc | apply pw_below_drewN | apply below_drew1) | exact HB.out)))); (case aL => have := LMc23.out; omega); intro v342 w32 ho hb hg hat; rw [← Ny341.out] at ho; have n0_ := Aside0.mk (Kd.R_after (ok := (fun _ => True)) (by (with_reducible repeat (first | apply Kd.R_alloc | apply Kd.R_drewN | apply Kd.R_drew)); exact HO_7.out) hg hat); have n1_ := Aside0.mk (hb); have n2_ := Aside0.mk (ho); clear HO_7; clear HB; clear HO340; have HO_7 := n0_; have HB := n1_; have HO343 := n2_; clear n0_ n1_ n2_; clear ho hb hg hat; have p25 : 0 ≤ (t333 : Int) := of_decide_eq_true (by first | (with_reducible assumption) | assumption); have q25 : (t333 : Int) < ((y341.length : Int) : Int) := of_decide_eq_true (by first | (with_reducible assumption) | assumption); obtain ⟨go25, co25, eo25, gb25, gl25, cl25, HG25⟩ := Kd.R_form HO343.out (by omega); (first | cases eo25 | (injection eo25 with ea_ en_ ec_; (first | subst ea_ | (injection ea_ with ea_; subst ea_)); subst ec_; clear en_)); have GB25 := Aside0.mk gb25; have GG25 := Aside0.mk HG25; clear gb25 gl25 HG25; obtain ⟨hx25_0, hf25_0⟩ := Kd.R_celln 0 HO343.out (t333 : Int) p25 q25; replace p25 := eq_true p25; replace q25 := eq_true q25; obtain ⟨hy33_, hz33_⟩ := Kd.R_celln 0 HO343.out (t333 : Int) (of_decide_eq_true (by first | (with_reducible assumption) | assumption)) (of_decide_eq_true (by first | (with_reducible assumption) | assumption)); have HP33 := Kd.R_putg HO343.out (t333 : Int) (wrap64 (t334 - 1))) | ((with_reducible refine gate_store (t := 2) (p := 78) rfl ?_); (try (rw [drewN_self w32]; generalize hq_ : World.drewN w32 _ = w32; have n0_ := Aside0.mk (Kd.R_at hq_ HO_7.out); have n1_ := Aside0.mk (Kd.R_at hq_ HO343.out); have n2_ := Aside0.mk (below_at hq_ HB.out); clear hq_ HO_7 HO343 HB; have HO_7 := n0_; have HO343 := n1_; have HB := n2_; clear n0_ n1_ n2_; (try (obtain ⟨hy33_, hz33_⟩ := Kd.R_celln 0 HO343.out (t333 : Int) (of_decide_eq_true (by first | (with_reducible assumption) | assumption)) (of_decide_eq_true (by first | (with_reducible assumption) | assumption)))); (try (have HP33 := Kd.R_putg HO343.out (t333 : Int) (wrap64 (t334 - 1)))))); refine store_event (t := 2) (p := 78) (v := ?vo_w34) (w1 := (w32.setCell ⟨go25, (t333 : Int).toNat, none⟩ (.int .i64 (wrap64 (t334 - 1))))) ?hg ?ho ?hn ?hr ?_; (case ho => rfl); (case hg => rfl); (case hn => rfl); (case hr => first | (go_simp; done) | (go_simp; rfl)); intro w34 hw; have hg : w32.grownBy w34 (some go25) := (by rw [hw]; exact HP33.2); have hp_ : Kd.R (Kd.int .i64) 2 w34 w.heap.size (fun k_ => some k_ ≠ (.slice (some ad337) t329.length co28 : Value).ownBlock) (.slice (some ⟨go25, 0, none⟩) y341.length co25) y344 := (by rw [hw, Ny344.out]; exact HP33.1); clear HP33; have n0_ := Aside0.mk (Kd.R_after (v := (.slice (some ⟨go25, 0, none⟩) y341.length co25)) (v1 := (.slice (some ⟨go25, 0, none⟩) y341.length co25)) (ok := (fun _ => True)) (by (with_reducible repeat (first | apply Kd.R_alloc | apply Kd.R_drewN | apply Kd.R_drew)); exact HO_7.out) hg (.inl rfl)); have n1_ := Aside0.mk (hp_); have n2_ := Aside0.mk ((by rw [hw]; exact below_set (HB.out) GB25.out : Below w.heap.size w w34)); clear HO_7; clear HO343; clear HB; have HO_7 := n0_; have HO343 := n1_; have HB := n2_; clear n0_ n1_ n2_; clear hg hw hp_) | (go_at_call 16; refine calls_of_args (args' := #[.int .i64 t327, .slice (some ⟨go25, 0, none⟩) y344.length co25]) (by first | (rw [show y344.length = y341.length from (Kd.R_reads' HO343.out).1.symm] <;> rfl) | rfl) ?_; (with_reducible refine (impl_ReadLevels.calls kj8 t327 _ _ y344 t345 t346 _ ?side1 ?side2 A26.out).mono ?_); (case side1 => repeat (first | exact (Kd.R_reads' HO343.out).2.2 | (with_reducible refine Kd.C_alloc ?_ _) | (with_reducible refine Kd.C_drewN ?_ _) | (with_reducible refine Kd.C_drew ?_))); (case side2 => rw [show y344.length = y341.length from (Kd.R_reads' HO343.out).1.symm]; exact (Kd.R_reads' HO343.out).2.1); rintro e w35 ⟨rfl, hb⟩; have n0_ := Aside0.mk (Kd.R_below (by (with_reducible repeat (first | apply Kd.R_alloc | apply Kd.R_drewN | apply Kd.R_drew)); exact HO_7.out) hb); have n1_ := Aside0.mk (Kd.R_below (by (with_reducible repeat (first | apply Kd.R_alloc | apply Kd.R_drewN | apply Kd.R_drew)); exact HO343.out) hb); have n2_ := Aside0.mk (below_step (by repeat (first | (with_reducible first | exact HB.out | apply below_alloc | apply pw_below_drewN | apply below_drew1) | exact HB.out)) hb); clear HO_7; clear HO343; clear HB; have HO_7 := n0_; have HO343 := n1_; have HB := n2_; clear n0_ n1_ n2_; (try clear hb); (try clear hb2); (try clear hk); (try clear hi))); go_upto_region 16 with (first | (go_at_call 12; (with_reducible refine (laws_r8At.calls _ _ l0 1 (t329.length : Int) t333 _ ?side1 ?side2 A15.out).mono ?_); (case side1 => repeat (first | exact (Kd.C_below HR0.out HB.out) | (with_reducible refine Kd.C_alloc ?_ _) | (with_reducible refine Kd.C_drewN ?_ _) | (with_reducible refine Kd.C_drew ?_))); (case side2 => exact HC0.out); rintro e w' ⟨rfl, ⟨nd, rfl⟩⟩; (try first | exact ⟨rfl, _, World.drewN_drewN _ _ _⟩ | exact ⟨rfl, _, Eq.trans (World.drewN_drewN _ _ _) (congrArg (World.drewN _) (Nat.add_assoc _ _ _))⟩)) | (go_at_call 12; (with_reducible refine (laws_r8At.calls _ _ l0 2 3 t334 _ ?side1 ?side2 A16.out).mono ?_); (case side1 => repeat (first | exact (Kd.C_below HR0.out (by repeat (first | (with_reducible first | exact HB.out | apply below_alloc | apply pw_below_drewN | apply below_drew1) | exact HB.out))) | (with_reducible refine Kd.C_alloc ?_ _) | (with_reducible refine Kd.C_drewN ?_ _) | (with_reducible refine Kd.C_drew ?_))); (case side2 => exact HC0.out); rintro e w' ⟨rfl, ⟨nd, rfl⟩⟩; (try first | exact ⟨rfl, _, World.drewN_drewN _ _ _⟩ | exact ⟨rfl, _, Eq.trans (World.drewN_drewN _ _ _) (congrArg (World.drewN _) (Nat.add_assoc _ _ _))⟩)) | (go_at_call 15; (with_reducible refine (impl_WrongBehind.calls kj8 t327 tj0_ t333 (wrap64 (t334 - 1)) t335 t336 _ A17.out).mono ?_); rintro e w29 ⟨rfl, hb⟩; have n0_ := Aside0.mk (Kd.R_below (by (with_reducible repeat (first | apply Kd.R_alloc | apply Kd.R_drewN | apply Kd.R_drew)); exact HO_7.out) hb); have n1_ := Aside0.mk (below_step (by repeat (first | (with_reducible first | exact HB.out | apply below_alloc | apply pw_below_drewN | apply below_drew1) | exact HB.out)) hb); clear HO_7; clear HB; have HO_7 := n0_; have HB := n1_; clear n0_ n1_; (try clear hb); (try clear hb2); (try clear hk); (try clear hi); have p337 : 0 ≤ (t333 : Int) := of_decide_eq_true (by first | (with_reducible assumption) | assumption); have q337 : t333 < (t329.length : Int) := of_decide_eq_true (by first | (with_reducible assumption) | assumption); obtain ⟨ad337, e337, hx337_0⟩ := Kd.at_int (Kd.R_reads' HO_7.out).2.2 t333 p337 q337; cases e337; replace p337 := eq_true p337; replace q337 := eq_true q337) | ((with_reducible refine gate_dst (N := 72) rfl ?_); (try (refine gate_guard (by rfl) ?_; dsimp only)); refine Kd.R_lit (Kd.int .i64) _ 2 ?hg (N := 72) ?hd (xs := ([] : List Int)) (inner := []) (ok := fun _ => True) (okp := fun _ => True) ?hr ?hp (fun _ hk => hk) trivial (Below.refl _ _) (Nat.le_refl _) (by simp) ?_; (case hd => rfl); (case hg => rfl); (case hr => first | (go_simp; done) | (go_simp; rfl)); (case hp => exact (Reps.none _ _)); intro v339 w30 ho31 hb hg_ hnew_; clear hg_ hnew_; (first | rw [← Ny338.out] at ho31 | (simp only [Int.reduceToNat] at ho31; rw [← Ny338.out] at ho31)); have n0_ := Aside0.mk (Kd.R_elder' (by (with_reducible repeat (first | apply Kd.R_alloc | apply Kd.R_drewN | apply Kd.R_drew)); exact HO_7.out) (Kd.R_base ho31) hb); have n1_ := Aside0.mk (Kd.R_lower (Kd.R_new' ho31 (Kd.R_lt (by (with_reducible repeat (first | apply Kd.R_alloc | apply Kd.R_drewN | apply Kd.R_drew)); exact HO_7.out))) (below_size (by repeat (first | (with_reducible first | exact HB.out | apply below_alloc | apply pw_below_drewN | apply below_drew1) | exact HB.out)))); have n2_ := Aside0.mk (below_step (by repeat (first | (with_reducible first | exact HB.out | apply below_alloc | apply pw_below_drewN | apply below_drew1) | exact HB.out)) hb); clear HO_7; clear HB; have HO_7 := n0_; have HO340 := n1_; have HB := n2_; clear n0_ n1_ n2_; clear hb ho31) | ((with_reducible refine gate_builtin (b := .append) (xs := #[.tmp 72, .tmp 73]) rfl ?_); (try (refine gate_guard (by rfl) ?_; dsimp only)); at_builtin; refine Kd.R_append_rows (Kd.int .i64) (w0 := w) w.heap.size rfl (.tmp 72) (.tmp 73) 29 2 (.int .i64 0) 8 rfl Tryd.underlying29 info2 rfl (by decide) (by omega) v339 y338 t329 _ _ _ (fun k_ => some k_ ≠ (.slice (some ad337) t329.length co28 : Value).ownBlock) (fun _ => False) rfl rfl ?aO ?aR (fun _ _ h => h) (fun _ h => h.elim) ?aF ?aB ?aS ?aL ?_; (case aR => repeat (first | exact (Kd.R_reads' HO_7.out).2.2 | (with_reducible refine Kd.C_alloc ?_ _) | (with_reducible refine Kd.C_drewN ?_ _) | (with_reducible refine Kd.C_drew ?_))); (case aB => exact (by repeat (first | (with_reducible first | exact HB.out | apply below_alloc | apply pw_below_drewN | apply below_drew1) | exact HB.out))); (case aF => exact (fun k_ hk => Kd.fresh' (Kd.R_lt (by (with_reducible repeat (first | apply Kd.R_alloc | apply Kd.R_drewN | apply Kd.R_drew)); exact HO_7.out)) k_ hk)); (case aO => exact (by (with_reducible repeat (first | apply Kd.R_alloc | apply Kd.R_drewN | apply Kd.R_drew)); exact Kd.R_mono HO340.out (fun _ hk => hk.2))); (case aS => exact (below_size (by repeat (first | (with_reducible first | exact HB.out | apply below_alloc | apply pw_below_drewN | apply below_drew1) | exact HB.out)))); (case aL => have := LMc23.out; omega); intro v342 w32 ho hb hg hat; rw [← Ny341.out] at ho; have n0_ := Aside0.mk (Kd.R_after (ok := (fun _ => True)) (by (with_reducible repeat (first | apply Kd.R_alloc | apply Kd.R_drewN | apply Kd.R_drew)); exact HO_7.out) hg hat); have n1_ := Aside0.mk (hb); have n2_ := Aside0.mk (ho); clear HO_7; clear HB; clear HO340; have HO_7 := n0_; have HB := n1_; have HO343 := n2_; clear n0_ n1_ n2_; clear ho hb hg hat; have p25 : 0 ≤ (t333 : Int) := of_decide_eq_true (by first | (with_reducible assumption) | assumption); have q25 : (t333 : Int) < ((y341.length : Int) : Int) := of_decide_eq_true (by first | (with_reducible assumption) | assumption); obtain ⟨go25, co25, eo25, gb25, gl25, cl25, HG25⟩ := Kd.R_form HO343.out (by omega); (first | cases eo25 | (injection eo25 with ea_ en_ ec_; (first | subst ea_ | (injection ea_ with ea_; subst ea_)); subst ec_; clear en_)); have GB25 := Aside0.mk gb25; have GG25 := Aside0.mk HG25; clear gb25 gl25 HG25; obtain ⟨hx25_0, hf25_0⟩ := Kd.R_celln 0 HO343.out (t333 : Int) p25 q25; replace p25 := eq_true p25; replace q25 := eq_true q25; obtain ⟨hy33_, hz33_⟩ := Kd.R_celln 0 HO343.out (t333 : Int) (of_decide_eq_true (by first | (with_reducible assumption) | assumption)) (of_decide_eq_true (by first | (with_reducible assumption) | assumption)); have HP33 := Kd.R_putg HO343.out (t333 : Int) (wrap64 (t334 - 1))) | ((with_reducible refine gate_store (t := 2) (p := 78) rfl ?_); (try (rw [drewN_self w32]; generalize hq_ : World.drewN w32 _ = w32; have n0_ := Aside0.mk (Kd.R_at hq_ HO_7.out); have n1_ := Aside0.mk (Kd.R_at hq_ HO343.out); have n2_ := Aside0.mk (below_at hq_ HB.out); clear hq_ HO_7 HO343 HB; have HO_7 := n0_; have HO343 := n1_; have HB := n2_; clear n0_ n1_ n2_; (try (obtain ⟨hy33_, hz33_⟩ := Kd.R_celln 0 HO343.out (t333 : Int) (of_decide_eq_true (by first | (with_reducible assumption) | assumption)) (of_decide_eq_true (by first | (with_reducible assumption) | assumption)))); (try (have HP33 := Kd.R_putg HO343.out (t333 : Int) (wrap64 (t334 - 1)))))); refine store_event (t := 2) (p := 78) (v := ?vo_w34) (w1 := (w32.setCell ⟨go25, (t333 : Int).toNat, none⟩ (.int .i64 (wrap64 (t334 - 1))))) ?hg ?ho ?hn ?hr ?_; (case ho => rfl); (case hg => rfl); (case hn => rfl); (case hr => first | (go_simp; done) | (go_simp; rfl)); intro w34 hw; have hg : w32.grownBy w34 (some go25) := (by rw [hw]; exact HP33.2); have hp_ : Kd.R (Kd.int .i64) 2 w34 w.heap.size (fun k_ => some k_ ≠ (.slice (some ad337) t329.length co28 : Value).ownBlock) (.slice (some ⟨go25, 0, none⟩) y341.length co25) y344 := (by rw [hw, Ny344.out]; exact HP33.1); clear HP33; have n0_ := Aside0.mk (Kd.R_after (v := (.slice (some ⟨go25, 0, none⟩) y341.length co25)) (v1 := (.slice (some ⟨go25, 0, none⟩) y341.length co25)) (ok := (fun _ => True)) (by (with_reducible repeat (first | apply Kd.R_alloc | apply Kd.R_drewN | apply Kd.R_drew)); exact HO_7.out) hg (.inl rfl)); have n1_ := Aside0.mk (hp_); have n2_ := Aside0.mk ((by rw [hw]; exact below_set (HB.out) GB25.out : Below w.heap.size w w34)); clear HO_7; clear HO343; clear HB; have HO_7 := n0_; have HO343 := n1_; have HB := n2_; clear n0_ n1_ n2_; clear hg hw hp_) | (go_at_call 16; refine calls_of_args (args' := #[.int .i64 t327, .slice (some ⟨go25, 0, none⟩) y344.length co25]) (by first | (rw [show y344.length = y341.length from (Kd.R_reads' HO343.out).1.symm] <;> rfl) | rfl) ?_; (with_reducible refine (impl_ReadLevels.calls kj8 t327 _ _ y344 t345 t346 _ ?side1 ?side2 A26.out).mono ?_); (case side1 => repeat (first | exact (Kd.R_reads' HO343.out).2.2 | (with_reducible refine Kd.C_alloc ?_ _) | (with_reducible refine Kd.C_drewN ?_ _) | (with_reducible refine Kd.C_drew ?_))); (case side2 => rw [show y344.length = y341.length from (Kd.R_reads' HO343.out).1.symm]; exact (Kd.R_reads' HO343.out).2.1); rintro e w35 ⟨rfl, hb⟩; have n0_ := Aside0.mk (Kd.R_below (by (with_reducible repeat (first | apply Kd.R_alloc | apply Kd.R_drewN | apply Kd.R_drew)); exact HO_7.out) hb); have n1_ := Aside0.mk (Kd.R_below (by (with_reducible repeat (first | apply Kd.R_alloc | apply Kd.R_drewN | apply Kd.R_drew)); exact HO343.out) hb); have n2_ := Aside0.mk (below_step (by repeat (first | (with_reducible first | exact HB.out | apply below_alloc | apply pw_below_drewN | apply below_drew1) | exact HB.out)) hb); clear HO_7; clear HO343; clear HB; have HO_7 := n0_; have HO343 := n1_; have HB := n2_; clear n0_ n1_ n2_; (try clear hb); (try clear hb2); (try clear hk); (try clear hi))))
                      (try simp only [Act.put, List.setIfInBounds_toArray, List.set_cons_zero, List.set_cons_succ])
                      go_cut [93] (fun v93 wc => ∃ (kq : Nat) (x93_26 : Bool), v93 = .bool x93_26 ∧ Aside0 (laws_FnWrongLevels.j1 kq t327 tj0_ t335 t336 y344 t345 x93_26 = some r) ∧ Aside0 (kq ≤ kj8) ∧ Aside0 (Kd.R (Kd.int .i64) 2 wc w.heap.size (fun _ => True) (.slice (some ⟨go25, 0, none⟩) y341.length co25) y344) ∧ Aside0 (Below w.heap.size w wc))
                      case first =>
                        have H := HC27.out
                        clear HC27
                        by_cases c36 : t346 = true
                        · subst c36
                          have H1 : (laws_FnWrongLevels.j1 kj8 t327 tj0_ t335 t336 y344 t345 ((t345.size : Int) != (tj0_.size : Int))) = some r := by rw [if_pos rfl] at H; exact H
                          clear H
                          have H := H1
                          clear H1
                          have H' := Aside0.mk H
                          clear H
                          go_wp2
                          repeat (go_quiet (fail); try go_wp2)
                          go_meet
                          case rel => exact ⟨_, (((t345.size : Int) != (tj0_.size : Int))), (by first | rfl | (simp; done) | (simp [*]; done)), H', ⟨by have := HJ8.out; first | omega | exact Nat.le_refl _⟩, ⟨by (with_reducible repeat (first | apply Kd.R_alloc | apply Kd.R_drewN | apply Kd.R_drew)); exact Kd.R_mono HO343.out (fun _ hk => trivial)⟩, ⟨by repeat (first | (with_reducible first | exact HB.out | apply below_alloc | apply pw_below_drewN | apply below_drew1) | exact HB.out)⟩⟩
                        · replace c36 := Bool.eq_false_iff.mpr c36
                          subst c36
                          have H1 : (laws_FnWrongLevels.j1 kj8 t327 tj0_ t335 t336 y344 t345 true) = some r := by rw [if_neg (show ¬ (false = true) by decide)] at H; exact H
                          clear H
                          have H := H1
                          clear H1
                          have H' := Aside0.mk H
                          clear H
                          go_wp2
                          repeat (go_quiet (fail); try go_wp2)
                          go_meet
                          case rel => exact ⟨_, (true), (by first | rfl | (simp; done) | (simp [*]; done)), H', ⟨by have := HJ8.out; first | omega | exact Nat.le_refl _⟩, ⟨by (with_reducible repeat (first | apply Kd.R_alloc | apply Kd.R_drewN | apply Kd.R_drew)); exact Kd.R_mono HO343.out (fun _ hk => trivial)⟩, ⟨by repeat (first | (with_reducible first | exact HB.out | apply below_alloc | apply pw_below_drewN | apply below_drew1) | exact HB.out)⟩⟩
                      case rest =>
                        clear HC27
                        try clear c1
                        try clear c2
                        try clear p2
                        try clear q2
                        try clear hx2
                        try clear hf2
                        try clear c3
                        try clear p3
                        try clear q3
                        try clear hx3
                        try clear c4
                        try clear p6
                        try clear c7
                        try clear c7b0
                        try clear c7b1
                        try clear c7b2
                        try clear c12
                        try clear c14
                        try clear c18
                        try clear c18b0
                        try clear c19
                        try clear c19b0
                        try clear c20
                        try clear c20b0
                        try clear c20b1
                        try clear c20b2
                        try clear c23
                        try clear c24
                        try clear c24b0
                        try clear p25
                        try clear q25
                        try clear hx25
                        try clear hf25
                        try clear p33
                        try clear q33
                        try clear hx33
                        try clear c36
                        try clear hx25_0
                        try clear hx337_0
                        try clear p2
                        try clear p25
                        try clear p337
                        try clear q25
                        try clear q337
                        obtain ⟨kq, x93_26, rfl, HA, HJ26, HO_13, HB⟩ := hcut
                        have hl13_26 := (Kd.R_reads' HO_13.out).1
                        rw [hl13_26] at HO_13
                        (try simp only [hl13_26])
                        cases kq with
                        | zero => exact absurd HA.out (by simp [laws_FnWrongLevels.j1])
                        | succ kj26 =>
                          have H := HA.out
                          clear HA
                          simp only [laws_FnWrongLevels.j1] at H
                          by_cases c37 : x93_26 = true
                          · subst c37
                            have H1 : (some false) = some r := by rw [if_pos rfl] at H; exact H
                            clear H
                            have H := H1
                            clear H1
                            obtain rfl := Option.some.inj H
                            go_wp2
                            repeat (go_quiet (fail); try go_wp2)
                            go_ret
                            exact ⟨by first | rfl | (simp [errW_none, errW_some] <;> rfl) | (simp [*, errW_none, errW_some] <;> rfl), by repeat (first | (with_reducible first | exact HB.out | apply below_alloc | apply pw_below_drewN | apply below_drew1) | exact HB.out)⟩
                          · replace c37 := Bool.eq_false_iff.mpr c37
                            subst c37
                            have H1 : (laws_FnWrongLevels.l0 kj26 t327 tj0_ t335 t336 y344 t345 0 0) = some r := by rw [if_neg (show ¬ (false = true) by decide)] at H; exact H
                            clear H
                            have H := H1
                            clear H1
                            have H' := Aside0.mk H
                            clear H
                            go_wp2
                            repeat (go_quiet (fail); try go_wp2)
                            go_loopg [16, 17] kj26 (fun kq v16 v17 w' => ∃ (x16_3 : Int) (x17_3 : Int), v16 = .int .i64 x16_3 ∧ v17 = .int .i64 x17_3 ∧ Aside0 (laws_FnWrongLevels.l0 kq t327 tj0_ t335 t336 y344 t345 x16_3 x17_3 = some r) ∧ Aside0 (kq ≤ kj26) ∧ Aside0 (Kd.R (Kd.int .i64) 2 w' w.heap.size (fun _ => True) (.slice (some ⟨go25, 0, none⟩) y344.length co25) y344) ∧ Aside0 (Below w.heap.size w w'))
                            case atStart => exact ⟨(0), (0), (by first | rfl | (simp; done) | (simp [*]; done)), (by first | rfl | (simp; done) | (simp [*]; done)), H', ⟨Nat.le_refl _⟩, ⟨by (try simp only [hl13_26]); (with_reducible repeat (first | apply Kd.R_alloc | apply Kd.R_drewN | apply Kd.R_drew)); exact HO_13.out⟩, ⟨by repeat (first | (with_reducible first | exact HB.out | apply below_alloc | apply pw_below_drewN | apply below_drew1) | exact HB.out)⟩⟩
                            case round =>
                              clear H'
                              try clear c1
                              try clear c2
                              try clear p2
                              try clear q2
                              try clear hx2
                              try clear hf2
                              try clear c3
                              try clear p3
                              try clear q3
                              try clear hx3
                              try clear c4
                              try clear p6
                              try clear c7
                              try clear c7b0
                              try clear c7b1
                              try clear c7b2
                              try clear c12
                              try clear c14
                              try clear c18
                              try clear c18b0
                              try clear c19
                              try clear c19b0
                              try clear c20
                              try clear c20b0
                              try clear c20b1
                              try clear c20b2
                              try clear c23
                              try clear c24
                              try clear c24b0
                              try clear p25
                              try clear q25
                              try clear hx25
                              try clear hf25
                              try clear p33
                              try clear q33
                              try clear hx33
                              try clear c36
                              try clear c37
                              try clear hx25_0
                              try clear hx337_0
                              try clear p2
                              try clear p25
                              try clear p3
                              try clear p33
                              try clear p337
                              try clear p6
                              try clear q2
                              try clear q25
                              try clear q3
                              try clear q33
                              try clear q337
                              obtain ⟨x16_3, x17_3, rfl, rfl, HA, HK3, HO_13, HB⟩ := hrel
                              cases gk with
                              | zero => exact absurd HA.out (by simp [laws_FnWrongLevels.l0])
                              | succ k3 =>
                                have H := HA.out
                                clear HA
                                simp only [laws_FnWrongLevels.l0] at H
                                by_cases c38 : x17_3 < (tj0_.size : Int)
                                · rw [if_pos c38] at H
                                  have c38b0 : decide (x17_3 < (tj0_.size : Int)) = true := decide_eq_true c38
                                  clear c38
                                  by_cases c39 : 0 ≤ x17_3
                                  · rw [if_pos c39] at H
                                    have c39b0 : decide (0 ≤ x17_3) = true := decide_eq_true c39
                                    clear c39
                                    by_cases c40 : x17_3 < (t345.size : Int)
                                    · rw [if_pos c40] at H
                                      have c40b0 : decide (x17_3 < (t345.size : Int)) = true := decide_eq_true c40
                                      clear c40
                                      by_cases c43 : (bt t345 x17_3) = (bt tj0_ x17_3)
                                      · rw [if_pos c43] at H
                                        have c43b0 : ((bt t345 x17_3) == (bt tj0_ x17_3)) = true := beq_iff_eq.mpr c43
                                        have c43b1 : ((bt t345 x17_3) != (bt tj0_ x17_3)) = false := bne_eq_false_iff_eq.mpr c43
                                        clear c43
                                        have H' := Aside0.mk H
                                        clear H
                                        have p41 : 0 ≤ (x17_3 : Int) := of_decide_eq_true (by first | (with_reducible assumption) | assumption)
                                        have q41 : x17_3 < (t345.size : Int) := of_decide_eq_true (by first | (with_reducible assumption) | assumption)
                                        have hx41 := bt_at t345 x17_3
                                        replace p41 := eq_true p41
                                        replace q41 := eq_true q41
                                        have p42 : 0 ≤ (x17_3 : Int) := of_decide_eq_true (by first | (with_reducible assumption) | assumption)
                                        have q42 : x17_3 < (tj0_.size : Int) := of_decide_eq_true (by first | (with_reducible assumption) | assumption)
                                        have hx42 := bt_at tj0_ x17_3
                                        replace p42 := eq_true p42
                                        replace q42 := eq_true q42
                                        go_wp2
                                        repeat (go_quiet (fail); try go_wp2)
                                        go_roundg k3
                                        case measure => have := HJ8.out; have := HJ26.out; have := HK3.out; omega
                                        case rel => exact ⟨(x16_3), (wrap64 (x17_3 + 1)), (by first | rfl | (simp; done) | (simp [*]; done)), (by first | rfl | (simp; done) | (simp [*]; done)), H', ⟨by have := HJ8.out; have := HJ26.out; have := HK3.out; omega⟩, ⟨by (try simp only [hl13_26]); (with_reducible repeat (first | apply Kd.R_alloc | apply Kd.R_drewN | apply Kd.R_drew)); exact HO_13.out⟩, ⟨by repeat (first | (with_reducible first | exact HB.out | apply below_alloc | apply pw_below_drewN | apply below_drew1) | exact HB.out)⟩⟩
                                      · rw [if_neg c43] at H
                                        have c43b0 : ((bt t345 x17_3) == (bt tj0_ x17_3)) = false := beq_eq_false_iff_ne.mpr c43
                                        have c43b1 : ((bt t345 x17_3) != (bt tj0_ x17_3)) = true := bne_iff_ne.mpr c43
                                        have H' := Aside0.mk H
                                        clear H
                                        have p41 : 0 ≤ (x17_3 : Int) := of_decide_eq_true (by first | (with_reducible assumption) | assumption)
                                        have q41 : x17_3 < (t345.size : Int) := of_decide_eq_true (by first | (with_reducible assumption) | assumption)
                                        have hx41 := bt_at t345 x17_3
                                        replace p41 := eq_true p41
                                        replace q41 := eq_true q41
                                        have p42 : 0 ≤ (x17_3 : Int) := of_decide_eq_true (by first | (with_reducible assumption) | assumption)
                                        have q42 : x17_3 < (tj0_.size : Int) := of_decide_eq_true (by first | (with_reducible assumption) | assumption)
                                        have hx42 := bt_at tj0_ x17_3
                                        replace p42 := eq_true p42
                                        replace q42 := eq_true q42
                                        go_wp2
                                        repeat (go_quiet (fail); try go_wp2)
                                        go_roundg k3
                                        case measure => have := HJ8.out; have := HJ26.out; have := HK3.out; omega
                                        case rel => exact ⟨(wrap64 (x16_3 + 1)), (wrap64 (x17_3 + 1)), (by first | rfl | (simp; done) | (simp [*]; done)), (by first | rfl | (simp; done) | (simp [*]; done)), H', ⟨by have := HJ8.out; have := HJ26.out; have := HK3.out; omega⟩, ⟨by (try simp only [hl13_26]); (with_reducible repeat (first | apply Kd.R_alloc | apply Kd.R_drewN | apply Kd.R_drew)); exact HO_13.out⟩, ⟨by repeat (first | (with_reducible first | exact HB.out | apply below_alloc | apply pw_below_drewN | apply below_drew1) | exact HB.out)⟩⟩
                                    · rw [if_neg c40] at H
                                      exact absurd H (by simp)
                                  · rw [if_neg c39] at H
                                    exact absurd H (by simp)
                                · rw [if_neg c38] at H
                                  have c38b0 : decide (x17_3 < (tj0_.size : Int)) = false := decide_eq_false c38
                                  clear c38
                                  have HC44 := Aside0.mk H
                                  clear H
                                  go_upto_region 24 with (fail)
                                  repeat (go_quiet (fail); go_upto_region 24 with (fail))
                                  go_cut [118] (fun v118 wc => ∃ (kq : Nat) (x118_43 : Bool), v118 = .bool x118_43 ∧ Aside0 (laws_FnWrongLevels.j3 kq t327 y344 x118_43 = some r) ∧ Aside0 (kq ≤ k3) ∧ Aside0 (Kd.R (Kd.int .i64) 2 wc w.heap.size (fun _ => True) (.slice (some ⟨go25, 0, none⟩) y344.length co25) y344) ∧ Aside0 (Below w.heap.size w wc))
                                  case first =>
                                    have H := HC44.out
                                    clear HC44
                                    by_cases c45 : t336 = true
                                    · subst c45
                                      have H1 : (if t335 = x16_3 then (laws_FnWrongLevels.j3 k3 t327 y344 (decide (t335 > 2))) else (laws_FnWrongLevels.j3 k3 t327 y344 true)) = some r := by rw [if_pos rfl] at H; exact H
                                      clear H
                                      have H := H1
                                      clear H1
                                      by_cases c46 : t335 = x16_3
                                      · rw [if_pos c46] at H
                                        have c46b0 : (t335 == x16_3) = true := beq_iff_eq.mpr c46
                                        have c46b1 : (t335 != x16_3) = false := bne_eq_false_iff_eq.mpr c46
                                        clear c46
                                        (first | rw [c46b0] | (simp only [i64_w, i32_w]; rw [c46b0]) | skip)
                                        have H' := Aside0.mk H
                                        clear H
                                        go_wp2
                                        repeat (go_quiet (fail); try go_wp2)
                                        go_meet
                                        case rel => exact ⟨_, (decide (t335 > 2)), (by first | rfl | (simp; done) | (simp [*]; done)), H', ⟨by have := HJ8.out; have := HJ26.out; have := HK3.out; first | omega | exact Nat.le_refl _⟩, ⟨by (try simp only [hl13_26]); (with_reducible repeat (first | apply Kd.R_alloc | apply Kd.R_drewN | apply Kd.R_drew)); exact HO_13.out⟩, ⟨by repeat (first | (with_reducible first | exact HB.out | apply below_alloc | apply pw_below_drewN | apply below_drew1) | exact HB.out)⟩⟩
                                      · rw [if_neg c46] at H
                                        have c46b0 : (t335 == x16_3) = false := beq_eq_false_iff_ne.mpr c46
                                        have c46b1 : (t335 != x16_3) = true := bne_iff_ne.mpr c46
                                        (first | rw [c46b0] | (simp only [i64_w, i32_w]; rw [c46b0]) | skip)
                                        have H' := Aside0.mk H
                                        clear H
                                        go_wp2
                                        repeat (go_quiet (fail); try go_wp2)
                                        go_meet
                                        case rel => exact ⟨_, (true), (by first | rfl | (simp; done) | (simp [*]; done)), H', ⟨by have := HJ8.out; have := HJ26.out; have := HK3.out; first | omega | exact Nat.le_refl _⟩, ⟨by (try simp only [hl13_26]); (with_reducible repeat (first | apply Kd.R_alloc | apply Kd.R_drewN | apply Kd.R_drew)); exact HO_13.out⟩, ⟨by repeat (first | (with_reducible first | exact HB.out | apply below_alloc | apply pw_below_drewN | apply below_drew1) | exact HB.out)⟩⟩
                                    · replace c45 := Bool.eq_false_iff.mpr c45
                                      subst c45
                                      have H1 : (laws_FnWrongLevels.j3 k3 t327 y344 false) = some r := by rw [if_neg (show ¬ (false = true) by decide)] at H; exact H
                                      clear H
                                      have H := H1
                                      clear H1
                                      have H' := Aside0.mk H
                                      clear H
                                      go_wp2
                                      repeat (go_quiet (fail); try go_wp2)
                                      go_meet
                                      case rel => exact ⟨_, (false), (by first | rfl | (simp; done) | (simp [*]; done)), H', ⟨by have := HJ8.out; have := HJ26.out; have := HK3.out; first | omega | exact Nat.le_refl _⟩, ⟨by (try simp only [hl13_26]); (with_reducible repeat (first | apply Kd.R_alloc | apply Kd.R_drewN | apply Kd.R_drew)); exact HO_13.out⟩, ⟨by repeat (first | (with_reducible first | exact HB.out | apply below_alloc | apply pw_below_drewN | apply below_drew1) | exact HB.out)⟩⟩
                                  case rest =>
                                    clear HC44
                                    try clear c1
                                    try clear c2
                                    try clear p2
                                    try clear q2
                                    try clear hx2
                                    try clear hf2
                                    try clear c3
                                    try clear p3
                                    try clear q3
                                    try clear hx3
                                    try clear c4
                                    try clear p4
                                    try clear q4
                                    try clear hx4
                                    try clear p6
                                    try clear c7
                                    try clear c7b0
                                    try clear c7b1
                                    try clear c7b2
                                    try clear c12
                                    try clear c14
                                    try clear c18
                                    try clear c18b0
                                    try clear c19
                                    try clear c19b0
                                    try clear c20
                                    try clear c20b0
                                    try clear c20b1
                                    try clear c20b2
                                    try clear c23
                                    try clear c24
                                    try clear c24b0
                                    try clear p25
                                    try clear q25
                                    try clear hx25
                                    try clear hf25
                                    try clear p33
                                    try clear q33
                                    try clear hx33
                                    try clear c36
                                    try clear c37
                                    try clear c38
                                    try clear c38b0
                                    try clear c39
                                    try clear c39b0
                                    try clear c40
                                    try clear c40b0
                                    try clear p41
                                    try clear q41
                                    try clear hx41
                                    try clear p42
                                    try clear q42
                                    try clear hx42
                                    try clear c43
                                    try clear c43b0
                                    try clear c43b1
                                    try clear c45
                                    try clear c46
                                    try clear c46b0
                                    try clear c46b1
                                    try clear hx25_0
                                    try clear hx337_0
                                    try clear p2
                                    try clear p25
                                    try clear p3
                                    try clear p33
                                    try clear p337
                                    try clear p41
                                    try clear p42
                                    try clear p6
                                    try clear q2
                                    try clear q25
                                    try clear q3
                                    try clear q33
                                    try clear q337
                                    try clear q41
                                    try clear q42
                                    obtain ⟨kq, x118_43, rfl, HA, HJ43, HO_13, HB⟩ := hcut
                                    cases kq with
                                    | zero => exact absurd HA.out (by simp [laws_FnWrongLevels.j3])
                                    | succ kj43 =>
                                      have H := HA.out
                                      clear HA
                                      simp only [laws_FnWrongLevels.j3] at H
                                      by_cases c47 : x118_43 = true
                                      · subst c47
                                        have H1 : (some false) = some r := by rw [if_pos rfl] at H; exact H
                                        clear H
                                        have H := H1
                                        clear H1
                                        obtain rfl := Option.some.inj H
                                        go_wp2
                                        repeat (go_quiet (fail); try go_wp2)
                                        go_ret
                                        exact ⟨by first | rfl | (simp [errW_none, errW_some] <;> rfl) | (simp [*, errW_none, errW_some] <;> rfl), by repeat (first | (with_reducible first | exact HB.out | apply below_alloc | apply pw_below_drewN | apply below_drew1) | exact HB.out)⟩
                                      · replace c47 := Bool.eq_false_iff.mpr c47
                                        subst c47
                                        have H1 : ((impl_FirstWrong.f kj43 t327 y344).bind fun bt347 => ((impl_BitsOfLevels.f kj43 t327 y344).bind fun bt349 => (if (bt347.2 == bt349.2) = true then (laws_FnWrongLevels.j4 kj43 t327 y344 bt347.1 bt347.2 true) else (if bt347.2 = true then (if bt347.1 < 0 then (laws_FnWrongLevels.j4 kj43 t327 y344 bt347.1 bt347.2 true) else (laws_FnWrongLevels.j4 kj43 t327 y344 bt347.1 bt347.2 (decide (bt347.1 ≥ (y344.length : Int))))) else (laws_FnWrongLevels.j4 kj43 t327 y344 bt347.1 bt347.2 false))))) = some r := by rw [if_neg (show ¬ (false = true) by decide)] at H; exact H
                                        clear H
                                        have H := H1
                                        clear H1
                                        replace H := Option.bind_eq_some_iff.mp H
                                        obtain ⟨⟨t347, t348⟩, A480, H⟩ := H
                                        replace H : ((impl_BitsOfLevels.f kj43 t327 y344).bind fun bt349 => (if (t348 == bt349.2) = true then (laws_FnWrongLevels.j4 kj43 t327 y344 t347 t348 true) else (if t348 = true then (if t347 < 0 then (laws_FnWrongLevels.j4 kj43 t327 y344 t347 t348 true) else (laws_FnWrongLevels.j4 kj43 t327 y344 t347 t348 (decide (t347 ≥ (y344.length : Int))))) else (laws_FnWrongLevels.j4 kj43 t327 y344 t347 t348 false)))) = some r := H
                                        have A48 := Aside0.mk A480
                                        clear A480
                                        replace H := Option.bind_eq_some_iff.mp H
                                        obtain ⟨⟨t349, t350⟩, A490, H⟩ := H
                                        replace H : (if (t348 == t350) = true then (laws_FnWrongLevels.j4 kj43 t327 y344 t347 t348 true) else (if t348 = true then (if t347 < 0 then (laws_FnWrongLevels.j4 kj43 t327 y344 t347 t348 true) else (laws_FnWrongLevels.j4 kj43 t327 y344 t347 t348 (decide (t347 ≥ (y344.length : Int))))) else (laws_FnWrongLevels.j4 kj43 t327 y344 t347 t348 false))) = some r := H
                                        have A49 := Aside0.mk A490
                                        clear A490
                                        have HC50 := Aside0.mk H
                                        clear H
                                        go_upto_region 28 with (first | (go_at_call 17; (with_reducible refine (impl_FirstWrong.calls kj43 t327 _ _ y344 t347 t348 _ ?side1 ?side2 A48.out).mono ?_); (case side1 => repeat (first | exact (Kd.R_reads' HO_13.out).2.2 | (with_reducible refine Kd.C_alloc ?_ _) | (with_reducible refine Kd.C_drewN ?_ _) | (with_reducible refine Kd.C_drew ?_))); (case side2 => exact (Kd.R_reads' HO_13.out).2.1); rintro e w51 ⟨rfl, hb⟩; have n0_ := Aside0.mk (Kd.R_below (by (with_reducible repeat (first | apply Kd.R_alloc | apply Kd.R_drewN | apply Kd.R_drew)); exact HO_13.out) hb); have n1_ := Aside0.mk (below_step (by repeat (first | (with_reducible first | exact HB.out | apply below_alloc | apply pw_below_drewN | apply below_drew1) | exact HB.out)) hb); clear HO_13; clear HB; have HO_13 := n0_; have HB := n1_; clear n0_ n1_; (try clear hb); (try clear hb2); (try clear hk); (try clear hi)) | (go_at_call 18; (with_reducible refine (impl_BitsOfLevels.calls kj43 t327 _ _ y344 t349 t350 _ ?side1 ?side2 A49.out).mono ?_); (case side1 => repeat (first | exact (Kd.R_reads' HO_13.out).2.2 | (with_reducible refine Kd.C_alloc ?_ _) | (with_reducible refine Kd.C_drewN ?_ _) | (with_reducible refine Kd.C_drew ?_))); (case side2 => exact (Kd.R_reads' HO_13.out).2.1); rintro e w52 ⟨rfl, hb⟩; have n0_ := Aside0.mk (Kd.R_below (by (with_reducible repeat (first | apply Kd.R_alloc | apply Kd.R_drewN | apply Kd.R_drew)); exact HO_13.out) hb); have n1_ := Aside0.mk (below_step (by repeat (first | (with_reducible first | exact HB.out | apply below_alloc | apply pw_below_drewN | apply below_drew1) | exact HB.out)) hb); clear HO_13; clear HB; have HO_13 := n0_; have HB := n1_; clear n0_ n1_; (try clear hb); (try clear hb2); (try clear hk); (try clear hi)))
                                        repeat (go_quiet (first | (go_at_call 17; (with_reducible refine (impl_FirstWrong.calls kj43 t327 _ _ y344 t347 t348 _ ?side1 ?side2 A48.out).mono ?_); (case side1 => repeat (first | exact (Kd.R_reads' HO_13.out).2.2 | (with_reducible refine Kd.C_alloc ?_ _) | (with_reducible refine Kd.C_drewN ?_ _) | (with_reducible refine Kd.C_drew ?_))); (case side2 => exact (Kd.R_reads' HO_13.out).2.1); rintro e w51 ⟨rfl, hb⟩; have n0_ := Aside0.mk (Kd.R_below (by (with_reducible repeat (first | apply Kd.R_alloc | apply Kd.R_drewN | apply Kd.R_drew)); exact HO_13.out) hb); have n1_ := Aside0.mk (below_step (by repeat (first | (with_reducible first | exact HB.out | apply below_alloc | apply pw_below_drewN | apply below_drew1) | exact HB.out)) hb); clear HO_13; clear HB; have HO_13 := n0_; have HB := n1_; clear n0_ n1_; (try clear hb); (try clear hb2); (try clear hk); (try clear hi)) | (go_at_call 18; (with_reducible refine (impl_BitsOfLevels.calls kj43 t327 _ _ y344 t349 t350 _ ?side1 ?side2 A49.out).mono ?_); (case side1 => repeat (first | exact (Kd.R_reads' HO_13.out).2.2 | (with_reducible refine Kd.C_alloc ?_ _) | (with_reducible refine Kd.C_drewN ?_ _) | (with_reducible refine Kd.C_drew ?_))); (case side2 => exact (Kd.R_reads' HO_13.out).2.1); rintro e w52 ⟨rfl, hb⟩; have n0_ := Aside0.mk (Kd.R_below (by (with_reducible repeat (first | apply Kd.R_alloc | apply Kd.R_drewN | apply Kd.R_drew)); exact HO_13.out) hb); have n1_ := Aside0.mk (below_step (by repeat (first | (with_reducible first | exact HB.out | apply below_alloc | apply pw_below_drewN | apply below_drew1) | exact HB.out)) hb); clear HO_13; clear HB; have HO_13 := n0_; have HB := n1_; clear n0_ n1_; (try clear hb); (try clear hb2); (try clear hk); (try clear hi))); go_upto_region 28 with (first | (go_at_call 17; (with_reducible refine (impl_FirstWrong.calls kj43 t327 _ _ y344 t347 t348 _ ?side1 ?side2 A48.out).mono ?_); (case side1 => repeat (first | exact (Kd.R_reads' HO_13.out).2.2 | (with_reducible refine Kd.C_alloc ?_ _) | (with_reducible refine Kd.C_drewN ?_ _) | (with_reducible refine Kd.C_drew ?_))); (case side2 => exact (Kd.R_reads' HO_13.out).2.1); rintro e w51 ⟨rfl, hb⟩; have n0_ := Aside0.mk (Kd.R_below (by (with_reducible repeat (first | apply Kd.R_alloc | apply Kd.R_drewN | apply Kd.R_drew)); exact HO_13.out) hb); have n1_ := Aside0.mk (below_step (by repeat (first | (with_reducible first | exact HB.out | apply below_alloc | apply pw_below_drewN | apply below_drew1) | exact HB.out)) hb); clear HO_13; clear HB; have HO_13 := n0_; have HB := n1_; clear n0_ n1_; (try clear hb); (try clear hb2); (try clear hk); (try clear hi)) | (go_at_call 18; (with_reducible refine (impl_BitsOfLevels.calls kj43 t327 _ _ y344 t349 t350 _ ?side1 ?side2 A49.out).mono ?_); (case side1 => repeat (first | exact (Kd.R_reads' HO_13.out).2.2 | (with_reducible refine Kd.C_alloc ?_ _) | (with_reducible refine Kd.C_drewN ?_ _) | (with_reducible refine Kd.C_drew ?_))); (case side2 => exact (Kd.R_reads' HO_13.out).2.1); rintro e w52 ⟨rfl, hb⟩; have n0_ := Aside0.mk (Kd.R_below (by (with_reducible repeat (first | apply Kd.R_alloc | apply Kd.R_drewN | apply Kd.R_drew)); exact HO_13.out) hb); have n1_ := Aside0.mk (below_step (by repeat (first | (with_reducible first | exact HB.out | apply below_alloc | apply pw_below_drewN | apply below_drew1) | exact HB.out)) hb); clear HO_13; clear HB; have HO_13 := n0_; have HB := n1_; clear n0_ n1_; (try clear hb); (try clear hb2); (try clear hk); (try clear hi))))
                                        (try simp only [Act.put, List.setIfInBounds_toArray, List.set_cons_zero, List.set_cons_succ])
                                        go_cut [146] (fun v146 wc => ∃ (kq : Nat) (x146_49 : Bool), v146 = .bool x146_49 ∧ Aside0 (laws_FnWrongLevels.j4 kq t327 y344 t347 t348 x146_49 = some r) ∧ Aside0 (kq ≤ kj43) ∧ Aside0 (Kd.R (Kd.int .i64) 2 wc w.heap.size (fun _ => True) (.slice (some ⟨go25, 0, none⟩) y344.length co25) y344) ∧ Aside0 (Below w.heap.size w wc))
                                        case first =>
                                          have H := HC50.out
                                          clear HC50
                                          by_cases c53 : (t348 == t350) = true
                                          · rw [if_pos c53] at H
                                            have c53b0 : (t348 == t350) = true := c53
                                            (try (have c53b1 : decide (t348 = t350) = true := by simpa using c53))
                                            (try (have c53b2 : (t348 == t350) = true := by simpa using c53))
                                            clear c53
                                            (first | rw [c53b0] | (simp only [i64_w, i32_w]; rw [c53b0]) | skip)
                                            have H' := Aside0.mk H
                                            clear H
                                            go_wp2
                                            repeat (go_quiet (fail); try go_wp2)
                                            go_meet
                                            case rel => exact ⟨_, (true), (by first | rfl | (simp; done) | (simp [*]; done)), H', ⟨by have := HJ8.out; have := HJ26.out; have := HK3.out; have := HJ43.out; first | omega | exact Nat.le_refl _⟩, ⟨by (try simp only [hl13_26]); (with_reducible repeat (first | apply Kd.R_alloc | apply Kd.R_drewN | apply Kd.R_drew)); exact HO_13.out⟩, ⟨by repeat (first | (with_reducible first | exact HB.out | apply below_alloc | apply pw_below_drewN | apply below_drew1) | exact HB.out)⟩⟩
                                          · rw [if_neg c53] at H
                                            have c53b0 : (t348 == t350) = false := by simpa using c53
                                            (try (have c53b1 : decide (t348 = t350) = false := by simpa using c53))
                                            (try (have c53b2 : (t348 == t350) = false := by simpa using c53))
                                            (try (have c53b3 : ¬ (t348 = t350) := by simpa using c53))
                                            clear c53
                                            (first | rw [c53b0] | (simp only [i64_w, i32_w]; rw [c53b0]) | skip)
                                            by_cases c54 : t348 = true
                                            · subst c54
                                              have H1 : (if t347 < 0 then (laws_FnWrongLevels.j4 kj43 t327 y344 t347 true true) else (laws_FnWrongLevels.j4 kj43 t327 y344 t347 true (decide (t347 ≥ (y344.length : Int))))) = some r := by rw [if_pos rfl] at H; exact H
                                              clear H
                                              have H := H1
                                              clear H1
                                              by_cases c55 : t347 < 0
                                              · rw [if_pos c55] at H
                                                have c55b0 : decide (t347 < 0) = true := decide_eq_true c55
                                                clear c55
                                                have H' := Aside0.mk H
                                                clear H
                                                go_wp2
                                                repeat (go_quiet (fail); try go_wp2)
                                                go_meet
                                                case rel => exact ⟨_, (true), (by first | rfl | (simp; done) | (simp [*]; done)), H', ⟨by have := HJ8.out; have := HJ26.out; have := HK3.out; have := HJ43.out; first | omega | exact Nat.le_refl _⟩, ⟨by (try simp only [hl13_26]); (with_reducible repeat (first | apply Kd.R_alloc | apply Kd.R_drewN | apply Kd.R_drew)); exact HO_13.out⟩, ⟨by repeat (first | (with_reducible first | exact HB.out | apply below_alloc | apply pw_below_drewN | apply below_drew1) | exact HB.out)⟩⟩
                                              · rw [if_neg c55] at H
                                                have c55b0 : decide (t347 < 0) = false := decide_eq_false c55
                                                clear c55
                                                have H' := Aside0.mk H
                                                clear H
                                                go_wp2
                                                repeat (go_quiet (fail); try go_wp2)
                                                go_meet
                                                case rel => exact ⟨_, (decide (t347 ≥ (y344.length : Int))), (by first | rfl | (simp; done) | (simp [*]; done)), H', ⟨by have := HJ8.out; have := HJ26.out; have := HK3.out; have := HJ43.out; first | omega | exact Nat.le_refl _⟩, ⟨by (try simp only [hl13_26]); (with_reducible repeat (first | apply Kd.R_alloc | apply Kd.R_drewN | apply Kd.R_drew)); exact HO_13.out⟩, ⟨by repeat (first | (with_reducible first | exact HB.out | apply below_alloc | apply pw_below_drewN | apply below_drew1) | exact HB.out)⟩⟩
                                            · replace c54 := Bool.eq_false_iff.mpr c54
                                              subst c54
                                              have H1 : (laws_FnWrongLevels.j4 kj43 t327 y344 t347 false false) = some r := by rw [if_neg (show ¬ (false = true) by decide)] at H; exact H
                                              clear H
                                              have H := H1
                                              clear H1
                                              have H' := Aside0.mk H
                                              clear H
                                              go_wp2
                                              repeat (go_quiet (fail); try go_wp2)
                                              go_meet
                                              case rel => exact ⟨_, (false), (by first | rfl | (simp; done) | (simp [*]; done)), H', ⟨by have := HJ8.out; have := HJ26.out; have := HK3.out; have := HJ43.out; first | omega | exact Nat.le_refl _⟩, ⟨by (try simp only [hl13_26]); (with_reducible repeat (first | apply Kd.R_alloc | apply Kd.R_drewN | apply Kd.R_drew)); exact HO_13.out⟩, ⟨by repeat (first | (with_reducible first | exact HB.out | apply below_alloc | apply pw_below_drewN | apply below_drew1) | exact HB.out)⟩⟩
                                        case rest =>
                                          clear HC50
                                          try clear c1
                                          try clear c2
                                          try clear p2
                                          try clear q2
                                          try clear hx2
                                          try clear hf2
                                          try clear c3
                                          try clear p3
                                          try clear q3
                                          try clear hx3
                                          try clear c4
                                          try clear p4
                                          try clear q4
                                          try clear hx4
                                          try clear c5
                                          try clear p6
                                          try clear c7
                                          try clear c7b0
                                          try clear c7b1
                                          try clear c7b2
                                          try clear c12
                                          try clear c14
                                          try clear c18
                                          try clear c18b0
                                          try clear c19
                                          try clear c19b0
                                          try clear c20
                                          try clear c20b0
                                          try clear c20b1
                                          try clear c20b2
                                          try clear c23
                                          try clear c24
                                          try clear c24b0
                                          try clear p25
                                          try clear q25
                                          try clear hx25
                                          try clear hf25
                                          try clear p33
                                          try clear q33
                                          try clear hx33
                                          try clear c36
                                          try clear c37
                                          try clear c38
                                          try clear c38b0
                                          try clear c39
                                          try clear c39b0
                                          try clear c40
                                          try clear c40b0
                                          try clear p41
                                          try clear q41
                                          try clear hx41
                                          try clear p42
                                          try clear q42
                                          try clear hx42
                                          try clear c43
                                          try clear c43b0
                                          try clear c43b1
                                          try clear c45
                                          try clear c46
                                          try clear c46b0
                                          try clear c46b1
                                          try clear c47
                                          try clear c53
                                          try clear c53b0
                                          try clear c53b1
                                          try clear c53b2
                                          try clear c54
                                          try clear c55
                                          try clear c55b0
                                          try clear hx25_0
                                          try clear hx337_0
                                          try clear p2
                                          try clear p25
                                          try clear p3
                                          try clear p33
                                          try clear p337
                                          try clear p4
                                          try clear p41
                                          try clear p42
                                          try clear p6
                                          try clear q2
                                          try clear q25
                                          try clear q3
                                          try clear q33
                                          try clear q337
                                          try clear q4
                                          try clear q41
                                          try clear q42
                                          obtain ⟨kq, x146_49, rfl, HA, HJ49, HO_13, HB⟩ := hcut
                                          cases kq with
                                          | zero => exact absurd HA.out (by simp [laws_FnWrongLevels.j4])
                                          | succ kj49 =>
                                            have H := HA.out
                                            clear HA
                                            simp only [laws_FnWrongLevels.j4] at H
                                            by_cases c56 : x146_49 = true
                                            · subst c56
                                              have H1 : (some false) = some r := by rw [if_pos rfl] at H; exact H
                                              clear H
                                              have H := H1
                                              clear H1
                                              obtain rfl := Option.some.inj H
                                              go_wp2
                                              repeat (go_quiet (fail); try go_wp2)
                                              go_ret
                                              exact ⟨by first | rfl | (simp [errW_none, errW_some] <;> rfl) | (simp [*, errW_none, errW_some] <;> rfl), by repeat (first | (with_reducible first | exact HB.out | apply below_alloc | apply pw_below_drewN | apply below_drew1) | exact HB.out)⟩
                                            · replace c56 := Bool.eq_false_iff.mpr c56
                                              subst c56
                                              have H1 : (if t348 = true then (if 0 ≤ t347 then (if t347 ≤ (y344.length : Int) then ((impl_FirstWrong.f kj49 t327 (y344.take (t347 : Int).toNat)).bind fun bt355 => (if 0 ≤ (wrap64 (t347 + 1)) then (if (wrap64 (t347 + 1)) ≤ (y344.length : Int) then ((impl_FirstWrong.f kj49 t327 (y344.take ((wrap64 (t347 + 1)) : Int).toNat)).bind fun bt361 => (if bt355.2 = true then (some false) else (some bt361.2))) else (none)) else (none))) else (none)) else (none)) else (some true)) = some r := by rw [if_neg (show ¬ (false = true) by decide)] at H; exact H
                                              clear H
                                              have H := H1
                                              clear H1
                                              by_cases c57 : t348 = true
                                              · subst c57
                                                have H1 : (if 0 ≤ t347 then (if t347 ≤ (y344.length : Int) then ((impl_FirstWrong.f kj49 t327 (y344.take (t347 : Int).toNat)).bind fun bt355 => (if 0 ≤ (wrap64 (t347 + 1)) then (if (wrap64 (t347 + 1)) ≤ (y344.length : Int) then ((impl_FirstWrong.f kj49 t327 (y344.take ((wrap64 (t347 + 1)) : Int).toNat)).bind fun bt361 => (if bt355.2 = true then (some false) else (some bt361.2))) else (none)) else (none))) else (none)) else (none)) = some r := by rw [if_pos rfl] at H; exact H
                                                clear H
                                                have H := H1
                                                clear H1
                                                by_cases c58 : 0 ≤ t347
                                                · rw [if_pos c58] at H
                                                  have c58b0 := eq_true c58
                                                  have c58b1 : decide (0 ≤ t347) = true := decide_eq_true c58
                                                  clear c58
                                                  by_cases c59 : t347 ≤ (y344.length : Int)
                                                  · rw [if_pos c59] at H
                                                    have c59b0 := eq_true c59
                                                    have c59b1 : decide (t347 ≤ (y344.length : Int)) = true := decide_eq_true c59
                                                    clear c59
                                                    obtain ⟨y351, hy351⟩ : ∃ y_ : List Int, y_ = (y344.take (t347 : Int).toNat) := ⟨_, rfl⟩
                                                    replace H : ((impl_FirstWrong.f kj49 t327 y351).bind fun bt355 => (if 0 ≤ (wrap64 (t347 + 1)) then (if (wrap64 (t347 + 1)) ≤ (y344.length : Int) then ((impl_FirstWrong.f kj49 t327 (y344.take ((wrap64 (t347 + 1)) : Int).toNat)).bind fun bt361 => (if bt355.2 = true then (some false) else (some bt361.2))) else (none)) else (none))) = some r := by first | (rw [hy351]; with_reducible exact H) | (have H2_ := (Option.bind_some _ _).symm.trans H; rw [hy351]; with_reducible exact H2_) | (have H2_ := (Option.bind_some _ _).symm.trans H; with_reducible exact H2_) | with_reducible exact H | (rw [hy351]; exact H) | exact H
                                                    have Ny351 := Aside0.mk hy351
                                                    clear hy351
                                                    replace H := Option.bind_eq_some_iff.mp H
                                                    obtain ⟨⟨t355, t356⟩, A600, H⟩ := H
                                                    replace H : (if 0 ≤ (wrap64 (t347 + 1)) then (if (wrap64 (t347 + 1)) ≤ (y344.length : Int) then ((impl_FirstWrong.f kj49 t327 (y344.take ((wrap64 (t347 + 1)) : Int).toNat)).bind fun bt361 => (if t356 = true then (some false) else (some bt361.2))) else (none)) else (none)) = some r := H
                                                    have A60 := Aside0.mk A600
                                                    clear A600
                                                    obtain ⟨ji61, hji61⟩ : ∃ j_ : Int, (wrap64 (t347 + 1)) = j_ := ⟨_, rfl⟩
                                                    replace H : (if 0 ≤ (ji61) then (if (ji61) ≤ (y344.length : Int) then ((impl_FirstWrong.f kj49 t327 (y344.take ((ji61) : Int).toNat)).bind fun bt361 => (if t356 = true then (some false) else (some bt361.2))) else (none)) else (none)) = some r := by first | (rw [hji61] at H; exact H) | (simp only [hji61] at H ⊢; exact H)
                                                    (try rw [hji61] at A60)
                                                    have hji61w : (IntKind.i64.wrap (t347 + 1)) = ji61 := (i64_w _).trans hji61
                                                    (try rw [hji61])
                                                    by_cases c62 : 0 ≤ (ji61)
                                                    · rw [if_pos c62] at H
                                                      have c62b0 := eq_true c62
                                                      have c62b1 : decide (0 ≤ (ji61)) = true := decide_eq_true c62
                                                      clear c62
                                                      by_cases c63 : (ji61) ≤ (y344.length : Int)
                                                      · rw [if_pos c63] at H
                                                        have c63b0 := eq_true c63
                                                        have c63b1 : decide ((ji61) ≤ (y344.length : Int)) = true := decide_eq_true c63
                                                        clear c63
                                                        obtain ⟨y357, hy357⟩ : ∃ y_ : List Int, y_ = (y344.take ((ji61) : Int).toNat) := ⟨_, rfl⟩
                                                        replace H : ((impl_FirstWrong.f kj49 t327 y357).bind fun bt361 => (if t356 = true then (some false) else (some bt361.2))) = some r := by first | (rw [hy357]; with_reducible exact H) | (have H2_ := (Option.bind_some _ _).symm.trans H; rw [hy357]; with_reducible exact H2_) | (have H2_ := (Option.bind_some _ _).symm.trans H; with_reducible exact H2_) | with_reducible exact H | (rw [hy357]; exact H) | exact H
                                                        have Ny357 := Aside0.mk hy357
                                                        clear hy357
                                                        replace H := Option.bind_eq_some_iff.mp H
                                                        obtain ⟨⟨t361, t362⟩, A640, H⟩ := H
                                                        replace H : (if t356 = true then (some false) else (some t362)) = some r := H
                                                        have A64 := Aside0.mk A640
                                                        clear A640
                                                        by_cases c65 : t356 = true
                                                        · subst c65
                                                          have H1 : (some false) = some r := by rw [if_pos rfl] at H; exact H
                                                          clear H
                                                          have H := H1
                                                          clear H1
                                                          obtain rfl := Option.some.inj H
                                                          have q66 : (t347 : Int) ≤ ((y344.length : Int) : Int) := of_decide_eq_true (by first | (with_reducible assumption) | assumption)
                                                          obtain ⟨i066, hi066, _, hsz66, _⟩ := info_parts info2
                                                          have hroom66 : y344.length ≤ co25 := (Kd.R_reads' HO_13.out).2.1
                                                          have hC66 : Kd.C (Kd.int .i64) _ (some ⟨go25, 0, none⟩) y344.length y344 := (Kd.R_reads' HO_13.out).2.2
                                                          have hcut66 := cut_to (P := Tryd.prog) 29 2 .i64 Tryd.underlying29 hi066 (some ⟨go25, 0, none⟩) y344.length co25 t347 (of_decide_eq_true (by first | (with_reducible assumption) | assumption)) q66 hroom66
                                                          have hr66 := Kd.C_take (m := (t347 : Int).toNat) hC66 (by omega)
                                                          have hy66 : y351.length = (t347 : Int).toNat := (by rw [Ny351.out, List.length_take]; omega)
                                                          rw [← Ny351.out] at hr66
                                                          rw [← hy66] at hcut66
                                                          have HR354 := Aside0.mk hr66
                                                          have HC354 := Aside0.mk (show y351.length ≤ co25 from by omega)
                                                          clear hr66 hC66 hroom66 hi066 hsz66
                                                          have KY66 := Aside0.mk hy66
                                                          clear hy66
                                                          have KL66 := Aside0.mk (show (t347 : Int).toNat ≤ y344.length from by omega)
                                                          replace q66 := eq_true q66
                                                          go_wp2_with (first | (go_at_call 17; (with_reducible refine (impl_FirstWrong.calls kj49 t327 _ _ y351 t355 true _ ?side1 ?side2 A60.out).mono ?_); (case side1 => repeat (first | exact (by repeat (first | (with_reducible exact HR354.out) | (with_reducible refine Kd.C_alloc ?_ _) | (with_reducible refine Kd.C_drewN ?_ _) | (with_reducible refine Kd.C_drew ?_) | exact HR354.out)) | (with_reducible refine Kd.C_alloc ?_ _) | (with_reducible refine Kd.C_drewN ?_ _) | (with_reducible refine Kd.C_drew ?_))); (case side2 => exact HC354.out); rintro e w67 ⟨rfl, hb⟩; have n0_ := Aside0.mk (Kd.R_below (by (with_reducible repeat (first | apply Kd.R_alloc | apply Kd.R_drewN | apply Kd.R_drew)); exact HO_13.out) hb); have n1_ := Aside0.mk (Kd.C_below (by repeat (first | (with_reducible exact HR354.out) | (with_reducible refine Kd.C_alloc ?_ _) | (with_reducible refine Kd.C_drewN ?_ _) | (with_reducible refine Kd.C_drew ?_) | exact HR354.out)) hb); have n2_ := Aside0.mk (below_step (by repeat (first | (with_reducible first | exact HB.out | apply below_alloc | apply pw_below_drewN | apply below_drew1) | exact HB.out)) hb); clear HO_13; clear HR354; clear HB; have HO_13 := n0_; have HR354 := n1_; have HB := n2_; clear n0_ n1_ n2_; (try clear hb); (try clear hb2); (try clear hk); (try clear hi); have q68 : ((ji61) : Int) ≤ ((y344.length : Int) : Int) := of_decide_eq_true (by first | (with_reducible assumption) | assumption); obtain ⟨i068, hi068, _, hsz68, _⟩ := info_parts info2; have hroom68 : y344.length ≤ co25 := (Kd.R_reads' HO_13.out).2.1; have hC68 : Kd.C (Kd.int .i64) _ (some ⟨go25, 0, none⟩) y344.length y344 := (Kd.R_reads' HO_13.out).2.2; have hcut68 := cut_to (P := Tryd.prog) 29 2 .i64 Tryd.underlying29 hi068 (some ⟨go25, 0, none⟩) y344.length co25 (ji61) (of_decide_eq_true (by first | (with_reducible assumption) | assumption)) q68 hroom68; have hr68 := Kd.C_take (m := ((ji61) : Int).toNat) hC68 (by omega); have hy68 : y357.length = ((ji61) : Int).toNat := (by rw [Ny357.out, List.length_take]; omega); rw [← Ny357.out] at hr68; rw [← hy68] at hcut68; have HR360 := Aside0.mk hr68; have HC360 := Aside0.mk (show y357.length ≤ co25 from by omega); clear hr68 hC68 hroom68 hi068 hsz68; have KY68 := Aside0.mk hy68; clear hy68; have KL68 := Aside0.mk (show ((ji61) : Int).toNat ≤ y344.length from by omega); replace q68 := eq_true q68) | (go_at_call 17; (with_reducible refine (impl_FirstWrong.calls kj49 t327 _ _ y357 t361 t362 _ ?side1 ?side2 A64.out).mono ?_); (case side1 => repeat (first | exact (by repeat (first | (with_reducible exact HR360.out) | (with_reducible refine Kd.C_alloc ?_ _) | (with_reducible refine Kd.C_drewN ?_ _) | (with_reducible refine Kd.C_drew ?_) | exact HR360.out)) | (with_reducible refine Kd.C_alloc ?_ _) | (with_reducible refine Kd.C_drewN ?_ _) | (with_reducible refine Kd.C_drew ?_))); (case side2 => exact HC360.out); rintro e w69 ⟨rfl, hb⟩; have n0_ := Aside0.mk (Kd.R_below (by (with_reducible repeat (first | apply Kd.R_alloc | apply Kd.R_drewN | apply Kd.R_drew)); exact HO_13.out) hb); have n1_ := Aside0.mk (Kd.C_below (by repeat (first | (with_reducible exact HR354.out) | (with_reducible refine Kd.C_alloc ?_ _) | (with_reducible refine Kd.C_drewN ?_ _) | (with_reducible refine Kd.C_drew ?_) | exact HR354.out)) hb); have n2_ := Aside0.mk (Kd.C_below (by repeat (first | (with_reducible exact HR360.out) | (with_reducible refine Kd.C_alloc ?_ _) | (with_reducible refine Kd.C_drewN ?_ _) | (with_reducible refine Kd.C_drew ?_) | exact HR360.out)) hb); have n3_ := Aside0.mk (below_step (by repeat (first | (with_reducible first | exact HB.out | apply below_alloc | apply pw_below_drewN | apply below_drew1) | exact HB.out)) hb); clear HO_13; clear HR354; clear HR360; clear HB; have HO_13 := n0_; have HR354 := n1_; have HR360 := n2_; have HB := n3_; clear n0_ n1_ n2_ n3_; (try clear hb); (try clear hb2); (try clear hk); (try clear hi)))
                                                          repeat (go_quiet (first | (go_at_call 17; (with_reducible refine (impl_FirstWrong.calls kj49 t327 _ _ y351 t355 true _ ?side1 ?side2 A60.out).mono ?_); (case side1 => repeat (first | exact (by repeat (first | (with_reducible exact HR354.out) | (with_reducible refine Kd.C_alloc ?_ _) | (with_reducible refine Kd.C_drewN ?_ _) | (with_reducible refine Kd.C_drew ?_) | exact HR354.out)) | (with_reducible refine Kd.C_alloc ?_ _) | (with_reducible refine Kd.C_drewN ?_ _) | (with_reducible refine Kd.C_drew ?_))); (case side2 => exact HC354.out); rintro e w67 ⟨rfl, hb⟩; have n0_ := Aside0.mk (Kd.R_below (by (with_reducible repeat (first | apply Kd.R_alloc | apply Kd.R_drewN | apply Kd.R_drew)); exact HO_13.out) hb); have n1_ := Aside0.mk (Kd.C_below (by repeat (first | (with_reducible exact HR354.out) | (with_reducible refine Kd.C_alloc ?_ _) | (with_reducible refine Kd.C_drewN ?_ _) | (with_reducible refine Kd.C_drew ?_) | exact HR354.out)) hb); have n2_ := Aside0.mk (below_step (by repeat (first | (with_reducible first | exact HB.out | apply below_alloc | apply pw_below_drewN | apply below_drew1) | exact HB.out)) hb); clear HO_13; clear HR354; clear HB; have HO_13 := n0_; have HR354 := n1_; have HB := n2_; clear n0_ n1_ n2_; (try clear hb); (try clear hb2); (try clear hk); (try clear hi); have q68 : ((ji61) : Int) ≤ ((y344.length : Int) : Int) := of_decide_eq_true (by first | (with_reducible assumption) | assumption); obtain ⟨i068, hi068, _, hsz68, _⟩ := info_parts info2; have hroom68 : y344.length ≤ co25 := (Kd.R_reads' HO_13.out).2.1; have hC68 : Kd.C (Kd.int .i64) _ (some ⟨go25, 0, none⟩) y344.length y344 := (Kd.R_reads' HO_13.out).2.2; have hcut68 := cut_to (P := Tryd.prog) 29 2 .i64 Tryd.underlying29 hi068 (some ⟨go25, 0, none⟩) y344.length co25 (ji61) (of_decide_eq_true (by first | (with_reducible assumption) | assumption)) q68 hroom68; have hr68 := Kd.C_take (m := ((ji61) : Int).toNat) hC68 (by omega); have hy68 : y357.length = ((ji61) : Int).toNat := (by rw [Ny357.out, List.length_take]; omega); rw [← Ny357.out] at hr68; rw [← hy68] at hcut68; have HR360 := Aside0.mk hr68; have HC360 := Aside0.mk (show y357.length ≤ co25 from by omega); clear hr68 hC68 hroom68 hi068 hsz68; have KY68 := Aside0.mk hy68; clear hy68; have KL68 := Aside0.mk (show ((ji61) : Int).toNat ≤ y344.length from by omega); replace q68 := eq_true q68) | (go_at_call 17; (with_reducible refine (impl_FirstWrong.calls kj49 t327 _ _ y357 t361 t362 _ ?side1 ?side2 A64.out).mono ?_); (case side1 => repeat (first | exact (by repeat (first | (with_reducible exact HR360.out) | (with_reducible refine Kd.C_alloc ?_ _) | (with_reducible refine Kd.C_drewN ?_ _) | (with_reducible refine Kd.C_drew ?_) | exact HR360.out)) | (with_reducible refine Kd.C_alloc ?_ _) | (with_reducible refine Kd.C_drewN ?_ _) | (with_reducible refine Kd.C_drew ?_))); (case side2 => exact HC360.out); rintro e w69 ⟨rfl, hb⟩; have n0_ := Aside0.mk (Kd.R_below (by (with_reducible repeat (first | apply Kd.R_alloc | apply Kd.R_drewN | apply Kd.R_drew)); exact HO_13.out) hb); have n1_ := Aside0.mk (Kd.C_below (by repeat (first | (with_reducible exact HR354.out) | (with_reducible refine Kd.C_alloc ?_ _) | (with_reducible refine Kd.C_drewN ?_ _) | (with_reducible refine Kd.C_drew ?_) | exact HR354.out)) hb); have n2_ := Aside0.mk (Kd.C_below (by repeat (first | (with_reducible exact HR360.out) | (with_reducible refine Kd.C_alloc ?_ _) | (with_reducible refine Kd.C_drewN ?_ _) | (with_reducible refine Kd.C_drew ?_) | exact HR360.out)) hb); have n3_ := Aside0.mk (below_step (by repeat (first | (with_reducible first | exact HB.out | apply below_alloc | apply pw_below_drewN | apply below_drew1) | exact HB.out)) hb); clear HO_13; clear HR354; clear HR360; clear HB; have HO_13 := n0_; have HR354 := n1_; have HR360 := n2_; have HB := n3_; clear n0_ n1_ n2_ n3_; (try clear hb); (try clear hb2); (try clear hk); (try clear hi))); try go_wp2_with (first | (go_at_call 17; (with_reducible refine (impl_FirstWrong.calls kj49 t327 _ _ y351 t355 true _ ?side1 ?side2 A60.out).mono ?_); (case side1 => repeat (first | exact (by repeat (first | (with_reducible exact HR354.out) | (with_reducible refine Kd.C_alloc ?_ _) | (with_reducible refine Kd.C_drewN ?_ _) | (with_reducible refine Kd.C_drew ?_) | exact HR354.out)) | (with_reducible refine Kd.C_alloc ?_ _) | (with_reducible refine Kd.C_drewN ?_ _) | (with_reducible refine Kd.C_drew ?_))); (case side2 => exact HC354.out); rintro e w67 ⟨rfl, hb⟩; have n0_ := Aside0.mk (Kd.R_below (by (with_reducible repeat (first | apply Kd.R_alloc | apply Kd.R_drewN | apply Kd.R_drew)); exact HO_13.out) hb); have n1_ := Aside0.mk (Kd.C_below (by repeat (first | (with_reducible exact HR354.out) | (with_reducible refine Kd.C_alloc ?_ _) | (with_reducible refine Kd.C_drewN ?_ _) | (with_reducible refine Kd.C_drew ?_) | exact HR354.out)) hb); have n2_ := Aside0.mk (below_step (by repeat (first | (with_reducible first | exact HB.out | apply below_alloc | apply pw_below_drewN | apply below_drew1) | exact HB.out)) hb); clear HO_13; clear HR354; clear HB; have HO_13 := n0_; have HR354 := n1_; have HB := n2_; clear n0_ n1_ n2_; (try clear hb); (try clear hb2); (try clear hk); (try clear hi); have q68 : ((ji61) : Int) ≤ ((y344.length : Int) : Int) := of_decide_eq_true (by first | (with_reducible assumption) | assumption); obtain ⟨i068, hi068, _, hsz68, _⟩ := info_parts info2; have hroom68 : y344.length ≤ co25 := (Kd.R_reads' HO_13.out).2.1; have hC68 : Kd.C (Kd.int .i64) _ (some ⟨go25, 0, none⟩) y344.length y344 := (Kd.R_reads' HO_13.out).2.2; have hcut68 := cut_to (P := Tryd.prog) 29 2 .i64 Tryd.underlying29 hi068 (some ⟨go25, 0, none⟩) y344.length co25 (ji61) (of_decide_eq_true (by first | (with_reducible assumption) | assumption)) q68 hroom68; have hr68 := Kd.C_take (m := ((ji61) : Int).toNat) hC68 (by omega); have hy68 : y357.length = ((ji61) : Int).toNat := (by rw [Ny357.out, List.length_take]; omega); rw [← Ny357.out] at hr68; rw [← hy68] at hcut68; have HR360 := Aside0.mk hr68; have HC360 := Aside0.mk (show y357.length ≤ co25 from by omega); clear hr68 hC68 hroom68 hi068 hsz68; have KY68 := Aside0.mk hy68; clear hy68; have KL68 := Aside0.mk (show ((ji61) : Int).toNat ≤ y344.length from by omega); replace q68 := eq_true q68) | (go_at_call 17; (with_reducible refine (impl_FirstWrong.calls kj49 t327 _ _ y357 t361 t362 _ ?side1 ?side2 A64.out).mono ?_); (case side1 => repeat (first | exact (by repeat (first | (with_reducible exact HR360.out) | (with_reducible refine Kd.C_alloc ?_ _) | (with_reducible refine Kd.C_drewN ?_ _) | (with_reducible refine Kd.C_drew ?_) | exact HR360.out)) | (with_reducible refine Kd.C_alloc ?_ _) | (with_reducible refine Kd.C_drewN ?_ _) | (with_reducible refine Kd.C_drew ?_))); (case side2 => exact HC360.out); rintro e w69 ⟨rfl, hb⟩; have n0_ := Aside0.mk (Kd.R_below (by (with_reducible repeat (first | apply Kd.R_alloc | apply Kd.R_drewN | apply Kd.R_drew)); exact HO_13.out) hb); have n1_ := Aside0.mk (Kd.C_below (by repeat (first | (with_reducible exact HR354.out) | (with_reducible refine Kd.C_alloc ?_ _) | (with_reducible refine Kd.C_drewN ?_ _) | (with_reducible refine Kd.C_drew ?_) | exact HR354.out)) hb); have n2_ := Aside0.mk (Kd.C_below (by repeat (first | (with_reducible exact HR360.out) | (with_reducible refine Kd.C_alloc ?_ _) | (with_reducible refine Kd.C_drewN ?_ _) | (with_reducible refine Kd.C_drew ?_) | exact HR360.out)) hb); have n3_ := Aside0.mk (below_step (by repeat (first | (with_reducible first | exact HB.out | apply below_alloc | apply pw_below_drewN | apply below_drew1) | exact HB.out)) hb); clear HO_13; clear HR354; clear HR360; clear HB; have HO_13 := n0_; have HR354 := n1_; have HR360 := n2_; have HB := n3_; clear n0_ n1_ n2_ n3_; (try clear hb); (try clear hb2); (try clear hk); (try clear hi))))
                                                          go_ret
                                                          exact ⟨by first | rfl | (simp [errW_none, errW_some] <;> rfl) | (simp only [← hji61]; first | rfl | (simp [errW_none, errW_some] <;> rfl)) | (simp [*, errW_none, errW_some] <;> rfl), by repeat (first | (with_reducible first | exact HB.out | apply below_alloc | apply pw_below_drewN | apply below_drew1) | exact HB.out)⟩
                                                        · replace c65 := Bool.eq_false_iff.mpr c65
                                                          subst c65
                                                          have H1 : (some t362) = some r := by rw [if_neg (show ¬ (false = true) by decide)] at H; exact H
                                                          clear H
                                                          have H := H1
                                                          clear H1
                                                          obtain rfl := Option.some.inj H
                                                          have q70 : (t347 : Int) ≤ ((y344.length : Int) : Int) := of_decide_eq_true (by first | (with_reducible assumption) | assumption)
                                                          obtain ⟨i070, hi070, _, hsz70, _⟩ := info_parts info2
                                                          have hroom70 : y344.length ≤ co25 := (Kd.R_reads' HO_13.out).2.1
                                                          have hC70 : Kd.C (Kd.int .i64) _ (some ⟨go25, 0, none⟩) y344.length y344 := (Kd.R_reads' HO_13.out).2.2
                                                          have hcut70 := cut_to (P := Tryd.prog) 29 2 .i64 Tryd.underlying29 hi070 (some ⟨go25, 0, none⟩) y344.length co25 t347 (of_decide_eq_true (by first | (with_reducible assumption) | assumption)) q70 hroom70
                                                          have hr70 := Kd.C_take (m := (t347 : Int).toNat) hC70 (by omega)
                                                          have hy70 : y351.length = (t347 : Int).toNat := (by rw [Ny351.out, List.length_take]; omega)
                                                          rw [← Ny351.out] at hr70
                                                          rw [← hy70] at hcut70
                                                          have HR354 := Aside0.mk hr70
                                                          have HC354 := Aside0.mk (show y351.length ≤ co25 from by omega)
                                                          clear hr70 hC70 hroom70 hi070 hsz70
                                                          have KY70 := Aside0.mk hy70
                                                          clear hy70
                                                          have KL70 := Aside0.mk (show (t347 : Int).toNat ≤ y344.length from by omega)
                                                          replace q70 := eq_true q70
                                                          go_wp2_with (first | (go_at_call 17; (with_reducible refine (impl_FirstWrong.calls kj49 t327 _ _ y351 t355 false _ ?side1 ?side2 A60.out).mono ?_); (case side1 => repeat (first | exact (by repeat (first | (with_reducible exact HR354.out) | (with_reducible refine Kd.C_alloc ?_ _) | (with_reducible refine Kd.C_drewN ?_ _) | (with_reducible refine Kd.C_drew ?_) | exact HR354.out)) | (with_reducible refine Kd.C_alloc ?_ _) | (with_reducible refine Kd.C_drewN ?_ _) | (with_reducible refine Kd.C_drew ?_))); (case side2 => exact HC354.out); rintro e w71 ⟨rfl, hb⟩; have n0_ := Aside0.mk (Kd.R_below (by (with_reducible repeat (first | apply Kd.R_alloc | apply Kd.R_drewN | apply Kd.R_drew)); exact HO_13.out) hb); have n1_ := Aside0.mk (Kd.C_below (by repeat (first | (with_reducible exact HR354.out) | (with_reducible refine Kd.C_alloc ?_ _) | (with_reducible refine Kd.C_drewN ?_ _) | (with_reducible refine Kd.C_drew ?_) | exact HR354.out)) hb); have n2_ := Aside0.mk (below_step (by repeat (first | (with_reducible first | exact HB.out | apply below_alloc | apply pw_below_drewN | apply below_drew1) | exact HB.out)) hb); clear HO_13; clear HR354; clear HB; have HO_13 := n0_; have HR354 := n1_; have HB := n2_; clear n0_ n1_ n2_; (try clear hb); (try clear hb2); (try clear hk); (try clear hi); have q72 : ((ji61) : Int) ≤ ((y344.length : Int) : Int) := of_decide_eq_true (by first | (with_reducible assumption) | assumption); obtain ⟨i072, hi072, _, hsz72, _⟩ := info_parts info2; have hroom72 : y344.length ≤ co25 := (Kd.R_reads' HO_13.out).2.1; have hC72 : Kd.C (Kd.int .i64) _ (some ⟨go25, 0, none⟩) y344.length y344 := (Kd.R_reads' HO_13.out).2.2; have hcut72 := cut_to (P := Tryd.prog) 29 2 .i64 Tryd.underlying29 hi072 (some ⟨go25, 0, none⟩) y344.length co25 (ji61) (of_decide_eq_true (by first | (with_reducible assumption) | assumption)) q72 hroom72; have hr72 := Kd.C_take (m := ((ji61) : Int).toNat) hC72 (by omega); have hy72 : y357.length = ((ji61) : Int).toNat := (by rw [Ny357.out, List.length_take]; omega); rw [← Ny357.out] at hr72; rw [← hy72] at hcut72; have HR360 := Aside0.mk hr72; have HC360 := Aside0.mk (show y357.length ≤ co25 from by omega); clear hr72 hC72 hroom72 hi072 hsz72; have KY72 := Aside0.mk hy72; clear hy72; have KL72 := Aside0.mk (show ((ji61) : Int).toNat ≤ y344.length from by omega); replace q72 := eq_true q72) | (go_at_call 17; (with_reducible refine (impl_FirstWrong.calls kj49 t327 _ _ y357 t361 t362 _ ?side1 ?side2 A64.out).mono ?_); (case side1 => repeat (first | exact (by repeat (first | (with_reducible exact HR360.out) | (with_reducible refine Kd.C_alloc ?_ _) | (with_reducible refine Kd.C_drewN ?_ _) | (with_reducible refine Kd.C_drew ?_) | exact HR360.out)) | (with_reducible refine Kd.C_alloc ?_ _) | (with_reducible refine Kd.C_drewN ?_ _) | (with_reducible refine Kd.C_drew ?_))); (case side2 => exact HC360.out); rintro e w73 ⟨rfl, hb⟩; have n0_ := Aside0.mk (Kd.R_below (by (with_reducible repeat (first | apply Kd.R_alloc | apply Kd.R_drewN | apply Kd.R_drew)); exact HO_13.out) hb); have n1_ := Aside0.mk (Kd.C_below (by repeat (first | (with_reducible exact HR354.out) | (with_reducible refine Kd.C_alloc ?_ _) | (with_reducible refine Kd.C_drewN ?_ _) | (with_reducible refine Kd.C_drew ?_) | exact HR354.out)) hb); have n2_ := Aside0.mk (Kd.C_below (by repeat (first | (with_reducible exact HR360.out) | (with_reducible refine Kd.C_alloc ?_ _) | (with_reducible refine Kd.C_drewN ?_ _) | (with_reducible refine Kd.C_drew ?_) | exact HR360.out)) hb); have n3_ := Aside0.mk (below_step (by repeat (first | (with_reducible first | exact HB.out | apply below_alloc | apply pw_below_drewN | apply below_drew1) | exact HB.out)) hb); clear HO_13; clear HR354; clear HR360; clear HB; have HO_13 := n0_; have HR354 := n1_; have HR360 := n2_; have HB := n3_; clear n0_ n1_ n2_ n3_; (try clear hb); (try clear hb2); (try clear hk); (try clear hi)))
                                                          repeat (go_quiet (first | (go_at_call 17; (with_reducible refine (impl_FirstWrong.calls kj49 t327 _ _ y351 t355 false _ ?side1 ?side2 A60.out).mono ?_); (case side1 => repeat (first | exact (by repeat (first | (with_reducible exact HR354.out) | (with_reducible refine Kd.C_alloc ?_ _) | (with_reducible refine Kd.C_drewN ?_ _) | (with_reducible refine Kd.C_drew ?_) | exact HR354.out)) | (with_reducible refine Kd.C_alloc ?_ _) | (with_reducible refine Kd.C_drewN ?_ _) | (with_reducible refine Kd.C_drew ?_))); (case side2 => exact HC354.out); rintro e w71 ⟨rfl, hb⟩; have n0_ := Aside0.mk (Kd.R_below (by (with_reducible repeat (first | apply Kd.R_alloc | apply Kd.R_drewN | apply Kd.R_drew)); exact HO_13.out) hb); have n1_ := Aside0.mk (Kd.C_below (by repeat (first | (with_reducible exact HR354.out) | (with_reducible refine Kd.C_alloc ?_ _) | (with_reducible refine Kd.C_drewN ?_ _) | (with_reducible refine Kd.C_drew ?_) | exact HR354.out)) hb); have n2_ := Aside0.mk (below_step (by repeat (first | (with_reducible first | exact HB.out | apply below_alloc | apply pw_below_drewN | apply below_drew1) | exact HB.out)) hb); clear HO_13; clear HR354; clear HB; have HO_13 := n0_; have HR354 := n1_; have HB := n2_; clear n0_ n1_ n2_; (try clear hb); (try clear hb2); (try clear hk); (try clear hi); have q72 : ((ji61) : Int) ≤ ((y344.length : Int) : Int) := of_decide_eq_true (by first | (with_reducible assumption) | assumption); obtain ⟨i072, hi072, _, hsz72, _⟩ := info_parts info2; have hroom72 : y344.length ≤ co25 := (Kd.R_reads' HO_13.out).2.1; have hC72 : Kd.C (Kd.int .i64) _ (some ⟨go25, 0, none⟩) y344.length y344 := (Kd.R_reads' HO_13.out).2.2; have hcut72 := cut_to (P := Tryd.prog) 29 2 .i64 Tryd.underlying29 hi072 (some ⟨go25, 0, none⟩) y344.length co25 (ji61) (of_decide_eq_true (by first | (with_reducible assumption) | assumption)) q72 hroom72; have hr72 := Kd.C_take (m := ((ji61) : Int).toNat) hC72 (by omega); have hy72 : y357.length = ((ji61) : Int).toNat := (by rw [Ny357.out, List.length_take]; omega); rw [← Ny357.out] at hr72; rw [← hy72] at hcut72; have HR360 := Aside0.mk hr72; have HC360 := Aside0.mk (show y357.length ≤ co25 from by omega); clear hr72 hC72 hroom72 hi072 hsz72; have KY72 := Aside0.mk hy72; clear hy72; have KL72 := Aside0.mk (show ((ji61) : Int).toNat ≤ y344.length from by omega); replace q72 := eq_true q72) | (go_at_call 17; (with_reducible refine (impl_FirstWrong.calls kj49 t327 _ _ y357 t361 t362 _ ?side1 ?side2 A64.out).mono ?_); (case side1 => repeat (first | exact (by repeat (first | (with_reducible exact HR360.out) | (with_reducible refine Kd.C_alloc ?_ _) | (with_reducible refine Kd.C_drewN ?_ _) | (with_reducible refine Kd.C_drew ?_) | exact HR360.out)) | (with_reducible refine Kd.C_alloc ?_ _) | (with_reducible refine Kd.C_drewN ?_ _) | (with_reducible refine Kd.C_drew ?_))); (case side2 => exact HC360.out); rintro e w73 ⟨rfl, hb⟩; have n0_ := Aside0.mk (Kd.R_below (by (with_reducible repeat (first | apply Kd.R_alloc | apply Kd.R_drewN | apply Kd.R_drew)); exact HO_13.out) hb); have n1_ := Aside0.mk (Kd.C_below (by repeat (first | (with_reducible exact HR354.out) | (with_reducible refine Kd.C_alloc ?_ _) | (with_reducible refine Kd.C_drewN ?_ _) | (with_reducible refine Kd.C_drew ?_) | exact HR354.out)) hb); have n2_ := Aside0.mk (Kd.C_below (by repeat (first | (with_reducible exact HR360.out) | (with_reducible refine Kd.C_alloc ?_ _) | (with_reducible refine Kd.C_drewN ?_ _) | (with_reducible refine Kd.C_drew ?_) | exact HR360.out)) hb); have n3_ := Aside0.mk (below_step (by repeat (first | (with_reducible first | exact HB.out | apply below_alloc | apply pw_below_drewN | apply below_drew1) | exact HB.out)) hb); clear HO_13; clear HR354; clear HR360; clear HB; have HO_13 := n0_; have HR354 := n1_; have HR360 := n2_; have HB := n3_; clear n0_ n1_ n2_ n3_; (try clear hb); (try clear hb2); (try clear hk); (try clear hi))); try go_wp2_with (first | (go_at_call 17; (with_reducible refine (impl_FirstWrong.calls kj49 t327 _ _ y351 t355 false _ ?side1 ?side2 A60.out).mono ?_); (case side1 => repeat (first | exact (by repeat (first | (with_reducible exact HR354.out) | (with_reducible refine Kd.C_alloc ?_ _) | (with_reducible refine Kd.C_drewN ?_ _) | (with_reducible refine Kd.C_drew ?_) | exact HR354.out)) | (with_reducible refine Kd.C_alloc ?_ _) | (with_reducible refine Kd.C_drewN ?_ _) | (with_reducible refine Kd.C_drew ?_))); (case side2 => exact HC354.out); rintro e w71 ⟨rfl, hb⟩; have n0_ := Aside0.mk (Kd.R_below (by (with_reducible repeat (first | apply Kd.R_alloc | apply Kd.R_drewN | apply Kd.R_drew)); exact HO_13.out) hb); have n1_ := Aside0.mk (Kd.C_below (by repeat (first | (with_reducible exact HR354.out) | (with_reducible refine Kd.C_alloc ?_ _) | (with_reducible refine Kd.C_drewN ?_ _) | (with_reducible refine Kd.C_drew ?_) | exact HR354.out)) hb); have n2_ := Aside0.mk (below_step (by repeat (first | (with_reducible first | exact HB.out | apply below_alloc | apply pw_below_drewN | apply below_drew1) | exact HB.out)) hb); clear HO_13; clear HR354; clear HB; have HO_13 := n0_; have HR354 := n1_; have HB := n2_; clear n0_ n1_ n2_; (try clear hb); (try clear hb2); (try clear hk); (try clear hi); have q72 : ((ji61) : Int) ≤ ((y344.length : Int) : Int) := of_decide_eq_true (by first | (with_reducible assumption) | assumption); obtain ⟨i072, hi072, _, hsz72, _⟩ := info_parts info2; have hroom72 : y344.length ≤ co25 := (Kd.R_reads' HO_13.out).2.1; have hC72 : Kd.C (Kd.int .i64) _ (some ⟨go25, 0, none⟩) y344.length y344 := (Kd.R_reads' HO_13.out).2.2; have hcut72 := cut_to (P := Tryd.prog) 29 2 .i64 Tryd.underlying29 hi072 (some ⟨go25, 0, none⟩) y344.length co25 (ji61) (of_decide_eq_true (by first | (with_reducible assumption) | assumption)) q72 hroom72; have hr72 := Kd.C_take (m := ((ji61) : Int).toNat) hC72 (by omega); have hy72 : y357.length = ((ji61) : Int).toNat := (by rw [Ny357.out, List.length_take]; omega); rw [← Ny357.out] at hr72; rw [← hy72] at hcut72; have HR360 := Aside0.mk hr72; have HC360 := Aside0.mk (show y357.length ≤ co25 from by omega); clear hr72 hC72 hroom72 hi072 hsz72; have KY72 := Aside0.mk hy72; clear hy72; have KL72 := Aside0.mk (show ((ji61) : Int).toNat ≤ y344.length from by omega); replace q72 := eq_true q72) | (go_at_call 17; (with_reducible refine (impl_FirstWrong.calls kj49 t327 _ _ y357 t361 t362 _ ?side1 ?side2 A64.out).mono ?_); (case side1 => repeat (first | exact (by repeat (first | (with_reducible exact HR360.out) | (with_reducible refine Kd.C_alloc ?_ _) | (with_reducible refine Kd.C_drewN ?_ _) | (with_reducible refine Kd.C_drew ?_) | exact HR360.out)) | (with_reducible refine Kd.C_alloc ?_ _) | (with_reducible refine Kd.C_drewN ?_ _) | (with_reducible refine Kd.C_drew ?_))); (case side2 => exact HC360.out); rintro e w73 ⟨rfl, hb⟩; have n0_ := Aside0.mk (Kd.R_below (by (with_reducible repeat (first | apply Kd.R_alloc | apply Kd.R_drewN | apply Kd.R_drew)); exact HO_13.out) hb); have n1_ := Aside0.mk (Kd.C_below (by repeat (first | (with_reducible exact HR354.out) | (with_reducible refine Kd.C_alloc ?_ _) | (with_reducible refine Kd.C_drewN ?_ _) | (with_reducible refine Kd.C_drew ?_) | exact HR354.out)) hb); have n2_ := Aside0.mk (Kd.C_below (by repeat (first | (with_reducible exact HR360.out) | (with_reducible refine Kd.C_alloc ?_ _) | (with_reducible refine Kd.C_drewN ?_ _) | (with_reducible refine Kd.C_drew ?_) | exact HR360.out)) hb); have n3_ := Aside0.mk (below_step (by repeat (first | (with_reducible first | exact HB.out | apply below_alloc | apply pw_below_drewN | apply below_drew1) | exact HB.out)) hb); clear HO_13; clear HR354; clear HR360; clear HB; have HO_13 := n0_; have HR354 := n1_; have HR360 := n2_; have HB := n3_; clear n0_ n1_ n2_ n3_; (try clear hb); (try clear hb2); (try clear hk); (try clear hi))))
                                                          go_ret
                                                          exact ⟨by first | rfl | (simp [errW_none, errW_some] <;> rfl) | (simp only [← hji61]; first | rfl | (simp [errW_none, errW_some] <;> rfl)) | (simp [*, errW_none, errW_some] <;> rfl), by repeat (first | (with_reducible first | exact HB.out | apply below_alloc | apply pw_below_drewN | apply below_drew1) | exact HB.out)⟩
                                                      · rw [if_neg c63] at H
                                                        exact absurd H (by simp)
                                                    · rw [if_neg c62] at H
                                                      exact absurd H (by simp)
                                                  · rw [if_neg c59] at H
                                                    exact absurd H (by simp)
                                                · rw [if_neg c58] at H
                                                  exact absurd H (by simp)
                                              · replace c57 := Bool.eq_false_iff.mpr c57
                                                subst c57
                                                have H1 : (some true) = some r := by rw [if_neg (show ¬ (false = true) by decide)] at H; exact H
                                                clear H
                                                have H := H1
                                                clear H1
                                                obtain rfl := Option.some.inj H
                                                go_wp2
                                                repeat (go_quiet (fail); try go_wp2)
                                                go_ret
                                                exact ⟨by first | rfl | (simp [errW_none, errW_some] <;> rfl) | (simp [*, errW_none, errW_some] <;> rfl), by repeat (first | (with_reducible first | exact HB.out | apply below_alloc | apply pw_below_drewN | apply below_drew1) | exact HB.out)⟩
                    · rw [if_neg c24] at H
                      exact absurd H (by simp)
                  · rw [if_neg c23] at H
                    exact absurd H (by simp)
              · rw [if_neg c19] at H
                exact absurd H (by simp)
            · rw [if_neg c18] at H
              exact absurd H (by simp)
    · rw [if_neg c7] at H
      exact absurd H (by simp)

/-- THE ONE PURE STATEMENT of laws_FnWrongLevels: yours. -/
def laws_FnWrongLevels.Pure : Prop := ∀ (l0 : List Int) (l1 : List Int), l0.length ≤ maxLen → l0.length * 1 ≤ 140737488351232 → (∀ x ∈ l0, (Lit.int .u8 x).wf = true) → l1.length ≤ maxLen → l1.length * 1 ≤ 140737488351232 → (∀ x ∈ l1, (Lit.int .u8 x).wf = true) → ∃ k, laws_FnWrongLevels.f k l0 l1 = some true
theorem laws_FnWrongLevels.walk (P : laws_FnWrongLevels.Pure) (a0 : Option Addr) (len0 cap0 : Nat) (z0 : List Int) (a1 : Option Addr) (len1 cap1 : Nat) (z1 : List Int) (w : World) (w0 : (a0 = none ∧ len0 = 0 ∧ cap0 = 0 ∧ z0 = []) ∨ ∃ x, a0 = some x ∧ len0 ≤ cap0 ∧ cap0 ≤ maxLen ∧ z0.length = cap0 ∧ (∀ i, i < z0.length → w.cell? (x.add i) = some (.int .u8 (z0.getD i 0))) ∧ ∀ n ∈ z0, (Lit.int .u8 n).wf = true) (y0 : len0 * 1 ≤ 140737488351232) (w1 : (a1 = none ∧ len1 = 0 ∧ cap1 = 0 ∧ z1 = []) ∨ ∃ x, a1 = some x ∧ len1 ≤ cap1 ∧ cap1 ≤ maxLen ∧ z1.length = cap1 ∧ (∀ i, i < z1.length → w.cell? (x.add i) = some (.int .u8 (z1.getD i 0))) ∧ ∀ n ∈ z1, (Lit.int .u8 n).wf = true) (y1 : len1 * 1 ≤ 140737488351232) :
    Calls Tryd.prog 4 #[.slice a0 len0 cap0, .slice a1 len1 cap1] w fun e w' => e = .returned (.bool true) ∧ Below w.heap.size w w' := by
  obtain ⟨l0, rfl, hr0, hm0, hw0, hc0⟩ := ReadsInt.ofRowC w0
  obtain ⟨l1, rfl, hr1, hm1, hw1, hc1⟩ := ReadsInt.ofRowC w1
  obtain ⟨k, h⟩ := P l0 l1 hm0 y0 hw0 hm1 y1 hw1
  refine (laws_FnWrongLevels.calls k _ _ l0 _ _ l1 true w (Kd.C_of_reads (d := (0 : Int)) (h1 := fun _ => rfl) hr0) hc0 (Kd.C_of_reads (d := (0 : Int)) (h1 := fun _ => rfl) hr1) hc1 h).mono ?_
  rintro e w' ⟨rfl, hd⟩
  exact ⟨rfl, hd⟩

end Go.Proofs.YthaafdeicgbajaaDoor.QFnWrongLevels
