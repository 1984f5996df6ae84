/- FnFlats: functions that it reaches, with what they compute and the proof that they do; written by a program of this session (wip/myprint.py). -/
import Derived.Test.YtckjcighblnnfaaDoorQFnFlatsx0
import Derived.Test.YtckjcighblnnfaaDoorQFnFlatsx1
import Derived.Test.YtckjcighblnnfaaDoorQFnFlatsx3
import Derived.Test.YtckjcighblnnfaaDoorQFnFlatsx4
namespace Go.Proofs.YtckjcighblnnfaaDoor.QFnFlats
open Go.RowKit Go.Proofs.YtckjcighblnnfaaDoorW.PrintWords Go.Proofs.YtckjcighblnnfaaDoorW.PrintLast Go.Proofs.YtckjcighblnnfaaDoorW.PrintMore
attribute [local go_sem] max2_int min2_int max_two min_two max_three min_three max_four min_four   -- for this text's walks alone
set_option linter.unusedVariables false
set_option linter.unusedSimpArgs false

/-! ### laws_FnFlats: function 14 -/
mutual
def laws_FnFlats.j0 : Nat → List Int → Int → List Int → Int → Bool → Option (Bool)
  | 0, _, _, _, _, _ => none
  | k + 1, x0, x5, x7, x13, x81 => if x81 = true then (some false) else (laws_FnFlats.l0 k x0 x5 x7 x13 0 1)
def laws_FnFlats.l0 : Nat → List Int → Int → List Int → Int → Int → Int → Option (Bool)
  | 0, _, _, _, _, _, _ => none
  | k + 1, x0, x5, x7, x13, x15, x16 => if x16 < (x7.length : Int) then (if 0 ≤ x16 then (if 0 ≤ (wrap64 (x16 - 1)) then (if (wrap64 (x16 - 1)) < (x7.length : Int) then (if (rd x7 x16) = (rd x7 (wrap64 (x16 - 1))) then (laws_FnFlats.l0 k x0 x5 x7 x13 (wrap64 (x15 + 1)) (wrap64 (x16 + 1))) else (laws_FnFlats.l0 k x0 x5 x7 x13 x15 (wrap64 (x16 + 1)))) else (none)) else (none)) else (none)) else (if (wrap64 (x15 + x13)) = (wrap64 ((x7.length : Int) - 1)) then ((laws_r8At.f x0 1 7).bind fun t243 => (laws_FnFlats.l1 k x5 (wrap64 (1 + t243)) 0 0)) else (some false))
def laws_FnFlats.l1 : Nat → Int → Int → Int → Int → Option (Bool)
  | 0, _, _, _, _ => none
  | k + 1, x5, x17, x18, x19 => if 0 ≤ (IntKind.u64.wrap (x17)) then (if x19 < (shl .i64 1 (IntKind.u64.wrap (x17))) then (laws_FnFlats.l2 k x5 x17 x18 x19 (⟨#[]⟩ : ByteArray) (wrap64 (x17 - 1))) else ((impl_WorstFlat.f k x5 x17).bind fun bt244 => (if bt244.2 = true then (some (bt244.1 == x18)) else (some false)))) else (none)
def laws_FnFlats.l2 : Nat → Int → Int → Int → Int → ByteArray → Int → Option (Bool)
  | 0, _, _, _, _, _, _ => none
  | k + 1, x5, x17, x18, x19, x20, x21 => if x21 ≥ 0 then (if 0 ≤ (IntKind.u64.wrap (x21)) then ((some (([(wrap64 (48 + (Go.bits .and .i64 (shr .i64 x19 (IntKind.u64.wrap (x21))) 1))) % 256] : List Int) : List Int)).bind fun y246 => (if x20.size + (strOfNums y246).size ≤ 9223372036854775807 then (laws_FnFlats.l2 k x5 x17 x18 x19 (x20 ++ (strOfNums y246)) (wrap64 (x21 - 1))) else (none))) else (none)) else ((impl_LevelsOf.f k x5 x20).bind fun bt249 => ((impl_LongestFlat.f k bt249.1).bind fun bt253 => (if bt249.2 = true then (laws_FnFlats.j4 k x5 x17 x18 x19 bt253.1 (!bt253.2)) else (laws_FnFlats.j4 k x5 x17 x18 x19 bt253.1 true))))
def laws_FnFlats.j4 : Nat → Int → Int → Int → Int → Int → Bool → Option (Bool)
  | 0, _, _, _, _, _, _ => none
  | k + 1, x5, x17, x18, x19, x24, x150 => if x150 = true then (some false) else (if x24 > x18 then (laws_FnFlats.l1 k x5 x17 x24 (wrap64 (x19 + 1))) else (laws_FnFlats.l1 k x5 x17 x18 (wrap64 (x19 + 1))))
end
def laws_FnFlats.f (k : Nat) (l0 : List Int) (l1 : List Int) : Option (Bool) := (laws_r8Long.f l0 l1).bind fun t228 => (if t228 = true then (some true) else ((laws_r8At.f l0 0 6).bind fun t229 => ((spec_R8Bits.f k l1 11).bind fun t230 => (if t230.size + 1 ≤ 9223372036854775807 then ((impl_LevelsOf.f k t229 (t230 ++ (⟨#[48]⟩ : ByteArray))).bind fun bt231 => ((impl_LongestFlat.f k bt231.1).bind fun bt235 => ((impl_WorstFlat.f k t229 ((t230 ++ (⟨#[48]⟩ : ByteArray)).size : Int)).bind fun bt237 => ((impl_ChangesOf.f k bt231.1).bind fun bt239 => (if bt231.2 = true then (if bt235.2 = true then (if bt237.2 = true then (if bt239.2 = true then (if bt235.1 < 1 then (laws_FnFlats.j0 k l0 t229 bt231.1 bt239.1 true) else (laws_FnFlats.j0 k l0 t229 bt231.1 bt239.1 (decide (bt235.1 > bt237.1)))) else (laws_FnFlats.j0 k l0 t229 bt231.1 bt239.1 true)) else (laws_FnFlats.j0 k l0 t229 bt231.1 bt239.1 true)) else (laws_FnFlats.j0 k l0 t229 bt231.1 bt239.1 true)) else (laws_FnFlats.j0 k l0 t229 bt231.1 bt239.1 true)))))) else (none)))))
theorem laws_FnFlats.mono_l : ∀ k, (∀ y0 y1 y2 y3 y4, LeO (laws_FnFlats.j0 k y0 y1 y2 y3 y4) (laws_FnFlats.j0 (k + 1) y0 y1 y2 y3 y4)) ∧ (∀ y0 y1 y2 y3 y4 y5, LeO (laws_FnFlats.l0 k y0 y1 y2 y3 y4 y5) (laws_FnFlats.l0 (k + 1) y0 y1 y2 y3 y4 y5)) ∧ (∀ y0 y1 y2 y3, LeO (laws_FnFlats.l1 k y0 y1 y2 y3) (laws_FnFlats.l1 (k + 1) y0 y1 y2 y3)) ∧ (∀ y0 y1 y2 y3 y4 y5, LeO (laws_FnFlats.l2 k y0 y1 y2 y3 y4 y5) (laws_FnFlats.l2 (k + 1) y0 y1 y2 y3 y4 y5)) ∧ (∀ y0 y1 y2 y3 y4 y5, LeO (laws_FnFlats.j4 k y0 y1 y2 y3 y4 y5) (laws_FnFlats.j4 (k + 1) y0 y1 y2 y3 y4 y5))
  | 0 => ⟨fun _ _ _ _ _ r h => by simp [laws_FnFlats.j0] at h, fun _ _ _ _ _ _ r h => by simp [laws_FnFlats.l0] at h, fun _ _ _ _ r h => by simp [laws_FnFlats.l1] at h, fun _ _ _ _ _ _ r h => by simp [laws_FnFlats.l2] at h, fun _ _ _ _ _ _ r h => by simp [laws_FnFlats.j4] at h⟩
  | k + 1 => by
    obtain ⟨ih0, ih1, ih2, ih3, ih4⟩ := laws_FnFlats.mono_l k
    refine ⟨?_, ?_, ?_, ?_, ?_⟩
    · intro y0 y1 y2 y3 y4
      unfold laws_FnFlats.j0
      repeat' first
      | (with_reducible exact ih0 _ _ _ _ _)
      | (with_reducible exact ih1 _ _ _ _ _ _)
      | (with_reducible exact ih2 _ _ _ _)
      | (with_reducible exact ih3 _ _ _ _ _ _)
      | (with_reducible exact ih4 _ _ _ _ _ _)
      | (with_reducible exact impl_ChangesOf.mono _ _)
      | (with_reducible exact impl_LevelsOf.mono _ _ _)
      | (with_reducible exact impl_LongestFlat.mono _ _)
      | (with_reducible exact impl_WorstFlat.mono _ _ _)
      | (with_reducible exact spec_R8Bits.mono _ _ _)
      | (with_reducible exact LeO.refl _)
      | (with_reducible exact LeO.none _)
      | (with_reducible refine LeO.ite ?_ ?_)
      | (with_reducible refine LeO.bind ?_ (fun _ => ?_))
      | exact ih0 _ _ _ _ _
      | exact ih1 _ _ _ _ _ _
      | exact ih2 _ _ _ _
      | exact ih3 _ _ _ _ _ _
      | exact ih4 _ _ _ _ _ _
      | exact impl_ChangesOf.mono _ _
      | exact impl_LevelsOf.mono _ _ _
      | exact impl_LongestFlat.mono _ _
      | exact impl_WorstFlat.mono _ _ _
      | exact spec_R8Bits.mono _ _ _
      | exact LeO.none _
      | refine LeO.ite ?_ ?_
      | refine LeO.bind ?_ (fun _ => ?_)
    · intro y0 y1 y2 y3 y4 y5
      unfold laws_FnFlats.l0
      repeat' first
      | (with_reducible exact ih0 _ _ _ _ _)
      | (with_reducible exact ih1 _ _ _ _ _ _)
      | (with_reducible exact ih2 _ _ _ _)
      | (with_reducible exact ih3 _ _ _ _ _ _)
      | (with_reducible exact ih4 _ _ _ _ _ _)
      | (with_reducible exact impl_ChangesOf.mono _ _)
      | (with_reducible exact impl_LevelsOf.mono _ _ _)
      | (with_reducible exact impl_LongestFlat.mono _ _)
      | (with_reducible exact impl_WorstFlat.mono _ _ _)
      | (with_reducible exact spec_R8Bits.mono _ _ _)
      | (with_reducible exact LeO.refl _)
      | (with_reducible exact LeO.none _)
      | (with_reducible refine LeO.ite ?_ ?_)
      | (with_reducible refine LeO.bind ?_ (fun _ => ?_))
      | exact ih0 _ _ _ _ _
      | exact ih1 _ _ _ _ _ _
      | exact ih2 _ _ _ _
      | exact ih3 _ _ _ _ _ _
      | exact ih4 _ _ _ _ _ _
      | exact impl_ChangesOf.mono _ _
      | exact impl_LevelsOf.mono _ _ _
      | exact impl_LongestFlat.mono _ _
      | exact impl_WorstFlat.mono _ _ _
      | exact spec_R8Bits.mono _ _ _
      | exact LeO.none _
      | refine LeO.ite ?_ ?_
      | refine LeO.bind ?_ (fun _ => ?_)
    · intro y0 y1 y2 y3
      unfold laws_FnFlats.l1
      repeat' first
      | (with_reducible exact ih0 _ _ _ _ _)
      | (with_reducible exact ih1 _ _ _ _ _ _)
      | (with_reducible exact ih2 _ _ _ _)
      | (with_reducible exact ih3 _ _ _ _ _ _)
      | (with_reducible exact ih4 _ _ _ _ _ _)
      | (with_reducible exact impl_ChangesOf.mono _ _)
      | (with_reducible exact impl_LevelsOf.mono _ _ _)
      | (with_reducible exact impl_LongestFlat.mono _ _)
      | (with_reducible exact impl_WorstFlat.mono _ _ _)
      | (with_reducible exact spec_R8Bits.mono _ _ _)
      | (with_reducible exact LeO.refl _)
      | (with_reducible exact LeO.none _)
      | (with_reducible refine LeO.ite ?_ ?_)
      | (with_reducible refine LeO.bind ?_ (fun _ => ?_))
      | exact ih0 _ _ _ _ _
      | exact ih1 _ _ _ _ _ _
      | exact ih2 _ _ _ _
      | exact ih3 _ _ _ _ _ _
      | exact ih4 _ _ _ _ _ _
      | exact impl_ChangesOf.mono _ _
      | exact impl_LevelsOf.mono _ _ _
      | exact impl_LongestFlat.mono _ _
      | exact impl_WorstFlat.mono _ _ _
      | exact spec_R8Bits.mono _ _ _
      | exact LeO.none _
      | refine LeO.ite ?_ ?_
      | refine LeO.bind ?_ (fun _ => ?_)
    · intro y0 y1 y2 y3 y4 y5
      unfold laws_FnFlats.l2
      repeat' first
      | (with_reducible exact ih0 _ _ _ _ _)
      | (with_reducible exact ih1 _ _ _ _ _ _)
      | (with_reducible exact ih2 _ _ _ _)
      | (with_reducible exact ih3 _ _ _ _ _ _)
      | (with_reducible exact ih4 _ _ _ _ _ _)
      | (with_reducible exact impl_ChangesOf.mono _ _)
      | (with_reducible exact impl_LevelsOf.mono _ _ _)
      | (with_reducible exact impl_LongestFlat.mono _ _)
      | (with_reducible exact impl_WorstFlat.mono _ _ _)
      | (with_reducible exact spec_R8Bits.mono _ _ _)
      | (with_reducible exact LeO.refl _)
      | (with_reducible exact LeO.none _)
      | (with_reducible refine LeO.ite ?_ ?_)
      | (with_reducible refine LeO.bind ?_ (fun _ => ?_))
      | exact ih0 _ _ _ _ _
      | exact ih1 _ _ _ _ _ _
      | exact ih2 _ _ _ _
      | exact ih3 _ _ _ _ _ _
      | exact ih4 _ _ _ _ _ _
      | exact impl_ChangesOf.mono _ _
      | exact impl_LevelsOf.mono _ _ _
      | exact impl_LongestFlat.mono _ _
      | exact impl_WorstFlat.mono _ _ _
      | exact spec_R8Bits.mono _ _ _
      | exact LeO.none _
      | refine LeO.ite ?_ ?_
      | refine LeO.bind ?_ (fun _ => ?_)
    · intro y0 y1 y2 y3 y4 y5
      unfold laws_FnFlats.j4
      repeat' first
      | (with_reducible exact ih0 _ _ _ _ _)
      | (with_reducible exact ih1 _ _ _ _ _ _)
      | (with_reducible exact ih2 _ _ _ _)
      | (with_reducible exact ih3 _ _ _ _ _ _)
      | (with_reducible exact ih4 _ _ _ _ _ _)
      | (with_reducible exact impl_ChangesOf.mono _ _)
      | (with_reducible exact impl_LevelsOf.mono _ _ _)
      | (with_reducible exact impl_LongestFlat.mono _ _)
      | (with_reducible exact impl_WorstFlat.mono _ _ _)
      | (with_reducible exact spec_R8Bits.mono _ _ _)
      | (with_reducible exact LeO.refl _)
      | (with_reducible exact LeO.none _)
      | (with_reducible refine LeO.ite ?_ ?_)
      | (with_reducible refine LeO.bind ?_ (fun _ => ?_))
      | exact ih0 _ _ _ _ _
      | exact ih1 _ _ _ _ _ _
      | exact ih2 _ _ _ _
      | exact ih3 _ _ _ _ _ _
      | exact ih4 _ _ _ _ _ _
      | exact impl_ChangesOf.mono _ _
      | exact impl_LevelsOf.mono _ _ _
      | exact impl_LongestFlat.mono _ _
      | exact impl_WorstFlat.mono _ _ _
      | exact spec_R8Bits.mono _ _ _
      | exact LeO.none _
      | refine LeO.ite ?_ ?_
      | refine LeO.bind ?_ (fun _ => ?_)
theorem laws_FnFlats.mono : ∀ a0 a1 k, LeO (laws_FnFlats.f k a0 a1) (laws_FnFlats.f (k + 1) a0 a1) := by
  intro a0 a1 k
  obtain ⟨ih0, ih1, ih2, ih3, ih4⟩ := laws_FnFlats.mono_l k
  unfold laws_FnFlats.f
  repeat' first
      | (with_reducible exact ih0 _ _ _ _ _)
      | (with_reducible exact ih1 _ _ _ _ _ _)
      | (with_reducible exact ih2 _ _ _ _)
      | (with_reducible exact ih3 _ _ _ _ _ _)
      | (with_reducible exact ih4 _ _ _ _ _ _)
      | (with_reducible exact impl_ChangesOf.mono _ _)
      | (with_reducible exact impl_LevelsOf.mono _ _ _)
      | (with_reducible exact impl_LongestFlat.mono _ _)
      | (with_reducible exact impl_WorstFlat.mono _ _ _)
      | (with_reducible exact spec_R8Bits.mono _ _ _)
      | (with_reducible exact LeO.refl _)
      | (with_reducible exact LeO.none _)
      | (with_reducible refine LeO.ite ?_ ?_)
      | (with_reducible refine LeO.bind ?_ (fun _ => ?_))
      | exact ih0 _ _ _ _ _
      | exact ih1 _ _ _ _ _ _
      | exact ih2 _ _ _ _
      | exact ih3 _ _ _ _ _ _
      | exact ih4 _ _ _ _ _ _
      | exact impl_ChangesOf.mono _ _
      | exact impl_LevelsOf.mono _ _ _
      | exact impl_LongestFlat.mono _ _
      | exact impl_WorstFlat.mono _ _ _
      | exact spec_R8Bits.mono _ _ _
      | exact LeO.none _
      | refine LeO.ite ?_ ?_
      | refine LeO.bind ?_ (fun _ => ?_)
set_option maxHeartbeats 8000000 in
set_option maxRecDepth 100000 in
theorem laws_FnFlats.calls (k : Nat) (A0 : Option Addr) (c0 : Nat) (l0 : List Int) (A1 : Option Addr) (c1 : Nat) (l1 : List Int) (r : Bool) (w : World) (hr0 : Kd.C (Kd.int .u8) w A0 l0.length l0) (hc0 : l0.length ≤ c0) (hr1 : Kd.C (Kd.int .u8) w A1 l1.length l1) (hc1 : l1.length ≤ c1) (h : laws_FnFlats.f k l0 l1 = some r) :
    Calls Tryd.prog 14 #[.slice A0 l0.length c0, .slice A1 l1.length c1] w fun e w' => e = .returned (.bool r) ∧ Below w.heap.size w w' := by
  have HR0 := Aside0.mk hr0
  have HC0 := Aside0.mk hc0
  clear hr0 hc0
  have HR1 := Aside0.mk hr1
  have HC1 := Aside0.mk hc1
  clear hr1 hc1
  have HB := Aside0.mk (Below.refl w.heap.size w)
  have H : ((laws_r8Long.f l0 l1).bind fun t228 => (if t228 = true then (some true) else ((laws_r8At.f l0 0 6).bind fun t229 => ((spec_R8Bits.f k l1 11).bind fun t230 => (if t230.size + 1 ≤ 9223372036854775807 then ((impl_LevelsOf.f k t229 (t230 ++ (⟨#[48]⟩ : ByteArray))).bind fun bt231 => ((impl_LongestFlat.f k bt231.1).bind fun bt235 => ((impl_WorstFlat.f k t229 ((t230 ++ (⟨#[48]⟩ : ByteArray)).size : Int)).bind fun bt237 => ((impl_ChangesOf.f k bt231.1).bind fun bt239 => (if bt231.2 = true then (if bt235.2 = true then (if bt237.2 = true then (if bt239.2 = true then (if bt235.1 < 1 then (laws_FnFlats.j0 k l0 t229 bt231.1 bt239.1 true) else (laws_FnFlats.j0 k l0 t229 bt231.1 bt239.1 (decide (bt235.1 > bt237.1)))) else (laws_FnFlats.j0 k l0 t229 bt231.1 bt239.1 true)) else (laws_FnFlats.j0 k l0 t229 bt231.1 bt239.1 true)) else (laws_FnFlats.j0 k l0 t229 bt231.1 bt239.1 true)) else (laws_FnFlats.j0 k l0 t229 bt231.1 bt239.1 true)))))) else (none)))))) = some r := h
  clear h
  replace H := Option.bind_eq_some_iff.mp H
  obtain ⟨t228, A30, H⟩ := H
  replace H : (if t228 = true then (some true) else ((laws_r8At.f l0 0 6).bind fun t229 => ((spec_R8Bits.f k l1 11).bind fun t230 => (if t230.size + 1 ≤ 9223372036854775807 then ((impl_LevelsOf.f k t229 (t230 ++ (⟨#[48]⟩ : ByteArray))).bind fun bt231 => ((impl_LongestFlat.f k bt231.1).bind fun bt235 => ((impl_WorstFlat.f k t229 ((t230 ++ (⟨#[48]⟩ : ByteArray)).size : Int)).bind fun bt237 => ((impl_ChangesOf.f k bt231.1).bind fun bt239 => (if bt231.2 = true then (if bt235.2 = true then (if bt237.2 = true then (if bt239.2 = true then (if bt235.1 < 1 then (laws_FnFlats.j0 k l0 t229 bt231.1 bt239.1 true) else (laws_FnFlats.j0 k l0 t229 bt231.1 bt239.1 (decide (bt235.1 > bt237.1)))) else (laws_FnFlats.j0 k l0 t229 bt231.1 bt239.1 true)) else (laws_FnFlats.j0 k l0 t229 bt231.1 bt239.1 true)) else (laws_FnFlats.j0 k l0 t229 bt231.1 bt239.1 true)) else (laws_FnFlats.j0 k l0 t229 bt231.1 bt239.1 true)))))) else (none))))) = some r := H
  have A3 := Aside0.mk A30
  clear A30
  by_cases c4 : t228 = true
  · subst c4
    have H1 : (some true) = some r := by rw [if_pos rfl] at H; exact H
    clear H
    have H := H1
    clear H1
    obtain rfl := Option.some.inj H
    go_enter Tryd.func14, Tryd.ntmps14
    go_wp2_with (first | (go_at_call 17; (with_reducible refine (laws_r8Long.calls _ _ l0 _ _ l1 true _ ?side1 ?side2 ?side3 ?side4 A3.out).mono ?_); (case side1 => repeat (first | exact HR0.out | (with_reducible refine Kd.C_alloc ?_ _) | (with_reducible refine Kd.C_drewN ?_ _) | (with_reducible refine Kd.C_drew ?_))); (case side2 => exact HC0.out); (case side3 => repeat (first | exact HR1.out | (with_reducible refine Kd.C_alloc ?_ _) | (with_reducible refine Kd.C_drewN ?_ _) | (with_reducible refine Kd.C_drew ?_))); (case side4 => exact HC1.out); rintro e w' ⟨rfl, ⟨nd, rfl⟩⟩; (try first | exact ⟨rfl, _, World.drewN_drewN _ _ _⟩ | exact ⟨rfl, _, Eq.trans (World.drewN_drewN _ _ _) (congrArg (World.drewN _) (Nat.add_assoc _ _ _))⟩)))
    repeat (go_quiet (first | (go_at_call 17; (with_reducible refine (laws_r8Long.calls _ _ l0 _ _ l1 true _ ?side1 ?side2 ?side3 ?side4 A3.out).mono ?_); (case side1 => repeat (first | exact HR0.out | (with_reducible refine Kd.C_alloc ?_ _) | (with_reducible refine Kd.C_drewN ?_ _) | (with_reducible refine Kd.C_drew ?_))); (case side2 => exact HC0.out); (case side3 => repeat (first | exact HR1.out | (with_reducible refine Kd.C_alloc ?_ _) | (with_reducible refine Kd.C_drewN ?_ _) | (with_reducible refine Kd.C_drew ?_))); (case side4 => exact HC1.out); rintro e w' ⟨rfl, ⟨nd, rfl⟩⟩; (try first | exact ⟨rfl, _, World.drewN_drewN _ _ _⟩ | exact ⟨rfl, _, Eq.trans (World.drewN_drewN _ _ _) (congrArg (World.drewN _) (Nat.add_assoc _ _ _))⟩))); try go_wp2_with (first | (go_at_call 17; (with_reducible refine (laws_r8Long.calls _ _ l0 _ _ l1 true _ ?side1 ?side2 ?side3 ?side4 A3.out).mono ?_); (case side1 => repeat (first | exact HR0.out | (with_reducible refine Kd.C_alloc ?_ _) | (with_reducible refine Kd.C_drewN ?_ _) | (with_reducible refine Kd.C_drew ?_))); (case side2 => exact HC0.out); (case side3 => repeat (first | exact HR1.out | (with_reducible refine Kd.C_alloc ?_ _) | (with_reducible refine Kd.C_drewN ?_ _) | (with_reducible refine Kd.C_drew ?_))); (case side4 => exact HC1.out); rintro e w' ⟨rfl, ⟨nd, rfl⟩⟩; (try first | exact ⟨rfl, _, World.drewN_drewN _ _ _⟩ | exact ⟨rfl, _, Eq.trans (World.drewN_drewN _ _ _) (congrArg (World.drewN _) (Nat.add_assoc _ _ _))⟩))))
    go_ret
    exact ⟨by first | rfl | (simp [errW_none, errW_some] <;> rfl) | (simp [*, errW_none, errW_some] <;> rfl), by repeat (first | (with_reducible first | exact HB.out | apply below_alloc | apply pw_below_drewN | apply below_drew1) | exact HB.out)⟩
  · replace c4 := Bool.eq_false_iff.mpr c4
    subst c4
    have H1 : ((laws_r8At.f l0 0 6).bind fun t229 => ((spec_R8Bits.f k l1 11).bind fun t230 => (if t230.size + 1 ≤ 9223372036854775807 then ((impl_LevelsOf.f k t229 (t230 ++ (⟨#[48]⟩ : ByteArray))).bind fun bt231 => ((impl_LongestFlat.f k bt231.1).bind fun bt235 => ((impl_WorstFlat.f k t229 ((t230 ++ (⟨#[48]⟩ : ByteArray)).size : Int)).bind fun bt237 => ((impl_ChangesOf.f k bt231.1).bind fun bt239 => (if bt231.2 = true then (if bt235.2 = true then (if bt237.2 = true then (if bt239.2 = true then (if bt235.1 < 1 then (laws_FnFlats.j0 k l0 t229 bt231.1 bt239.1 true) else (laws_FnFlats.j0 k l0 t229 bt231.1 bt239.1 (decide (bt235.1 > bt237.1)))) else (laws_FnFlats.j0 k l0 t229 bt231.1 bt239.1 true)) else (laws_FnFlats.j0 k l0 t229 bt231.1 bt239.1 true)) else (laws_FnFlats.j0 k l0 t229 bt231.1 bt239.1 true)) else (laws_FnFlats.j0 k l0 t229 bt231.1 bt239.1 true)))))) else (none)))) = some r := by rw [if_neg (show ¬ (false = true) by decide)] at H; exact H
    clear H
    have H := H1
    clear H1
    replace H := Option.bind_eq_some_iff.mp H
    obtain ⟨t229, A50, H⟩ := H
    replace H : ((spec_R8Bits.f k l1 11).bind fun t230 => (if t230.size + 1 ≤ 9223372036854775807 then ((impl_LevelsOf.f k t229 (t230 ++ (⟨#[48]⟩ : ByteArray))).bind fun bt231 => ((impl_LongestFlat.f k bt231.1).bind fun bt235 => ((impl_WorstFlat.f k t229 ((t230 ++ (⟨#[48]⟩ : ByteArray)).size : Int)).bind fun bt237 => ((impl_ChangesOf.f k bt231.1).bind fun bt239 => (if bt231.2 = true then (if bt235.2 = true then (if bt237.2 = true then (if bt239.2 = true then (if bt235.1 < 1 then (laws_FnFlats.j0 k l0 t229 bt231.1 bt239.1 true) else (laws_FnFlats.j0 k l0 t229 bt231.1 bt239.1 (decide (bt235.1 > bt237.1)))) else (laws_FnFlats.j0 k l0 t229 bt231.1 bt239.1 true)) else (laws_FnFlats.j0 k l0 t229 bt231.1 bt239.1 true)) else (laws_FnFlats.j0 k l0 t229 bt231.1 bt239.1 true)) else (laws_FnFlats.j0 k l0 t229 bt231.1 bt239.1 true)))))) else (none))) = some r := H
    have A5 := Aside0.mk A50
    clear A50
    replace H := Option.bind_eq_some_iff.mp H
    obtain ⟨t230, A60, H⟩ := H
    replace H : (if t230.size + 1 ≤ 9223372036854775807 then ((impl_LevelsOf.f k t229 (t230 ++ (⟨#[48]⟩ : ByteArray))).bind fun bt231 => ((impl_LongestFlat.f k bt231.1).bind fun bt235 => ((impl_WorstFlat.f k t229 ((t230 ++ (⟨#[48]⟩ : ByteArray)).size : Int)).bind fun bt237 => ((impl_ChangesOf.f k bt231.1).bind fun bt239 => (if bt231.2 = true then (if bt235.2 = true then (if bt237.2 = true then (if bt239.2 = true then (if bt235.1 < 1 then (laws_FnFlats.j0 k l0 t229 bt231.1 bt239.1 true) else (laws_FnFlats.j0 k l0 t229 bt231.1 bt239.1 (decide (bt235.1 > bt237.1)))) else (laws_FnFlats.j0 k l0 t229 bt231.1 bt239.1 true)) else (laws_FnFlats.j0 k l0 t229 bt231.1 bt239.1 true)) else (laws_FnFlats.j0 k l0 t229 bt231.1 bt239.1 true)) else (laws_FnFlats.j0 k l0 t229 bt231.1 bt239.1 true)))))) else (none)) = some r := H
    have A6 := Aside0.mk A60
    clear A60
    by_cases c7 : t230.size + 1 ≤ 9223372036854775807
    · rw [if_pos c7] at H
      have c7b0 := eq_true c7
      have c7b1 : decide (t230.size + 1 ≤ 9223372036854775807) = true := decide_eq_true c7
      try have c7b2 : (9223372036854775807 < t230.size + 1) = False := eq_false (Nat.not_lt.2 c7)
      replace H := Option.bind_eq_some_iff.mp H
      obtain ⟨⟨t231, t232⟩, A80, H⟩ := H
      replace H : ((impl_LongestFlat.f k t231).bind fun bt235 => ((impl_WorstFlat.f k t229 ((t230 ++ (⟨#[48]⟩ : ByteArray)).size : Int)).bind fun bt237 => ((impl_ChangesOf.f k t231).bind fun bt239 => (if t232 = true then (if bt235.2 = true then (if bt237.2 = true then (if bt239.2 = true then (if bt235.1 < 1 then (laws_FnFlats.j0 k l0 t229 t231 bt239.1 true) else (laws_FnFlats.j0 k l0 t229 t231 bt239.1 (decide (bt235.1 > bt237.1)))) else (laws_FnFlats.j0 k l0 t229 t231 bt239.1 true)) else (laws_FnFlats.j0 k l0 t229 t231 bt239.1 true)) else (laws_FnFlats.j0 k l0 t229 t231 bt239.1 true)) else (laws_FnFlats.j0 k l0 t229 t231 bt239.1 true))))) = some r := H
      have A8 := Aside0.mk A80
      clear A80
      replace H := Option.bind_eq_some_iff.mp H
      obtain ⟨⟨t235, t236⟩, A90, H⟩ := H
      replace H : ((impl_WorstFlat.f k t229 ((t230 ++ (⟨#[48]⟩ : ByteArray)).size : Int)).bind fun bt237 => ((impl_ChangesOf.f k t231).bind fun bt239 => (if t232 = true then (if t236 = true then (if bt237.2 = true then (if bt239.2 = true then (if t235 < 1 then (laws_FnFlats.j0 k l0 t229 t231 bt239.1 true) else (laws_FnFlats.j0 k l0 t229 t231 bt239.1 (decide (t235 > bt237.1)))) else (laws_FnFlats.j0 k l0 t229 t231 bt239.1 true)) else (laws_FnFlats.j0 k l0 t229 t231 bt239.1 true)) else (laws_FnFlats.j0 k l0 t229 t231 bt239.1 true)) else (laws_FnFlats.j0 k l0 t229 t231 bt239.1 true)))) = some r := H
      have A9 := Aside0.mk A90
      clear A90
      replace H := Option.bind_eq_some_iff.mp H
      obtain ⟨⟨t237, t238⟩, A100, H⟩ := H
      replace H : ((impl_ChangesOf.f k t231).bind fun bt239 => (if t232 = true then (if t236 = true then (if t238 = true then (if bt239.2 = true then (if t235 < 1 then (laws_FnFlats.j0 k l0 t229 t231 bt239.1 true) else (laws_FnFlats.j0 k l0 t229 t231 bt239.1 (decide (t235 > t237)))) else (laws_FnFlats.j0 k l0 t229 t231 bt239.1 true)) else (laws_FnFlats.j0 k l0 t229 t231 bt239.1 true)) else (laws_FnFlats.j0 k l0 t229 t231 bt239.1 true)) else (laws_FnFlats.j0 k l0 t229 t231 bt239.1 true))) = some r := H
      (rw [show ((t230 ++ (⟨#[48]⟩ : ByteArray)).size : Int) = (t230.size : Int) + 1 from (by rw [ByteArray.size_append]; rfl)] at A100)
      have A10 := Aside0.mk A100
      clear A100
      replace H := Option.bind_eq_some_iff.mp H
      obtain ⟨⟨t239, t240⟩, A110, H⟩ := H
      replace H : (if t232 = true then (if t236 = true then (if t238 = true then (if t240 = true then (if t235 < 1 then (laws_FnFlats.j0 k l0 t229 t231 t239 true) else (laws_FnFlats.j0 k l0 t229 t231 t239 (decide (t235 > t237)))) else (laws_FnFlats.j0 k l0 t229 t231 t239 true)) else (laws_FnFlats.j0 k l0 t229 t231 t239 true)) else (laws_FnFlats.j0 k l0 t229 t231 t239 true)) else (laws_FnFlats.j0 k l0 t229 t231 t239 true)) = some r := H
      have A11 := Aside0.mk A110
      clear A110
      have HC12 := Aside0.mk H
      clear H
      go_enter Tryd.func14, Tryd.ntmps14
      go_upto_region 9 with (first | (go_at_call 17; (with_reducible refine (laws_r8Long.calls _ _ l0 _ _ l1 false _ ?side1 ?side2 ?side3 ?side4 A3.out).mono ?_); (case side1 => repeat (first | exact HR0.out | (with_reducible refine Kd.C_alloc ?_ _) | (with_reducible refine Kd.C_drewN ?_ _) | (with_reducible refine Kd.C_drew ?_))); (case side2 => exact HC0.out); (case side3 => repeat (first | exact HR1.out | (with_reducible refine Kd.C_alloc ?_ _) | (with_reducible refine Kd.C_drewN ?_ _) | (with_reducible refine Kd.C_drew ?_))); (case side4 => exact HC1.out); rintro e w' ⟨rfl, ⟨nd, rfl⟩⟩; (try first | exact ⟨rfl, _, World.drewN_drewN _ _ _⟩ | exact ⟨rfl, _, Eq.trans (World.drewN_drewN _ _ _) (congrArg (World.drewN _) (Nat.add_assoc _ _ _))⟩)) | (go_at_call 18; (with_reducible refine (laws_r8At.calls _ _ l0 0 6 t229 _ ?side1 ?side2 A5.out).mono ?_); (case side1 => repeat (first | exact HR0.out | (with_reducible refine Kd.C_alloc ?_ _) | (with_reducible refine Kd.C_drewN ?_ _) | (with_reducible refine Kd.C_drew ?_))); (case side2 => exact HC0.out); rintro e w' ⟨rfl, ⟨nd, rfl⟩⟩; (try first | exact ⟨rfl, _, World.drewN_drewN _ _ _⟩ | exact ⟨rfl, _, Eq.trans (World.drewN_drewN _ _ _) (congrArg (World.drewN _) (Nat.add_assoc _ _ _))⟩)) | (go_at_call 29; (with_reducible refine (spec_R8Bits.calls k _ _ l1 11 t230 _ ?side1 ?side2 A6.out).mono ?_); (case side1 => repeat (first | exact HR1.out | (with_reducible refine Kd.C_alloc ?_ _) | (with_reducible refine Kd.C_drewN ?_ _) | (with_reducible refine Kd.C_drew ?_))); (case side2 => exact HC1.out); rintro e w13 ⟨rfl, hb⟩; have n0_ := Aside0.mk (below_step (by repeat (first | (with_reducible first | exact HB.out | apply below_alloc | apply pw_below_drewN | apply below_drew1) | exact HB.out)) hb); clear HB; have HB := n0_; clear n0_; (try clear hb); (try clear hb2); (try clear hk); (try clear hi)) | (go_at_call 45; (with_reducible refine (impl_LevelsOf.calls k t229 (t230 ++ (⟨#[48]⟩ : ByteArray)) t231 t232 _ A8.out).mono ?_); rintro e w14 ⟨v233, rfl, ho0, hb⟩; have n0_ := Aside0.mk (Kd.R_lower ho0 (below_size (by repeat (first | (with_reducible first | exact HB.out | apply below_alloc | apply pw_below_drewN | apply below_drew1) | exact HB.out)))); have n1_ := Aside0.mk (below_step (by repeat (first | (with_reducible first | exact HB.out | apply below_alloc | apply pw_below_drewN | apply below_drew1) | exact HB.out)) hb); clear HB; have HO234 := n0_; have HB := n1_; clear n0_ n1_; (try clear hb); (try clear hb2); (try clear hk); (try clear hi); (try clear ho0); obtain ⟨Ao15, co15, eo15⟩ := Kd.R_slice HO234.out; subst eo15) | (go_at_call 46; (with_reducible refine (impl_LongestFlat.calls k _ _ t231 t235 t236 _ ?side1 ?side2 A9.out).mono ?_); (case side1 => repeat (first | exact (Kd.R_reads' HO234.out).2.2 | (with_reducible refine Kd.C_alloc ?_ _) | (with_reducible refine Kd.C_drewN ?_ _) | (with_reducible refine Kd.C_drew ?_))); (case side2 => exact (Kd.R_reads' HO234.out).2.1); rintro e w16 ⟨rfl, hb⟩; have n0_ := Aside0.mk (Kd.R_below (by (with_reducible repeat (first | apply Kd.R_alloc | apply Kd.R_drewN | apply Kd.R_drew)); exact HO234.out) hb); have n1_ := Aside0.mk (below_step (by repeat (first | (with_reducible first | exact HB.out | apply below_alloc | apply pw_below_drewN | apply below_drew1) | exact HB.out)) hb); clear HO234; clear HB; have HO234 := n0_; have HB := n1_; clear n0_ n1_; (try clear hb); (try clear hb2); (try clear hk); (try clear hi)) | (go_at_call 47; (with_reducible refine (impl_WorstFlat.calls k t229 ((t230.size : Int) + 1) t237 t238 _ A10.out).mono ?_); rintro e w17 ⟨rfl, hb⟩; have n0_ := Aside0.mk (Kd.R_below (by (with_reducible repeat (first | apply Kd.R_alloc | apply Kd.R_drewN | apply Kd.R_drew)); exact HO234.out) hb); have n1_ := Aside0.mk (below_step (by repeat (first | (with_reducible first | exact HB.out | apply below_alloc | apply pw_below_drewN | apply below_drew1) | exact HB.out)) hb); clear HO234; clear HB; have HO234 := n0_; have HB := n1_; clear n0_ n1_; (try clear hb); (try clear hb2); (try clear hk); (try clear hi)) | (go_at_call 48; (with_reducible refine (impl_ChangesOf.calls k _ _ t231 t239 t240 _ ?side1 ?side2 A11.out).mono ?_); (case side1 => repeat (first | exact (Kd.R_reads' HO234.out).2.2 | (with_reducible refine Kd.C_alloc ?_ _) | (with_reducible refine Kd.C_drewN ?_ _) | (with_reducible refine Kd.C_drew ?_))); (case side2 => exact (Kd.R_reads' HO234.out).2.1); rintro e w' ⟨rfl, ⟨nd, rfl⟩⟩; (try first | exact ⟨rfl, _, World.drewN_drewN _ _ _⟩ | exact ⟨rfl, _, Eq.trans (World.drewN_drewN _ _ _) (congrArg (World.drewN _) (Nat.add_assoc _ _ _))⟩)))
      repeat (go_quiet (first | (go_at_call 17; (with_reducible refine (laws_r8Long.calls _ _ l0 _ _ l1 false _ ?side1 ?side2 ?side3 ?side4 A3.out).mono ?_); (case side1 => repeat (first | exact HR0.out | (with_reducible refine Kd.C_alloc ?_ _) | (with_reducible refine Kd.C_drewN ?_ _) | (with_reducible refine Kd.C_drew ?_))); (case side2 => exact HC0.out); (case side3 => repeat (first | exact HR1.out | (with_reducible refine Kd.C_alloc ?_ _) | (with_reducible refine Kd.C_drewN ?_ _) | (with_reducible refine Kd.C_drew ?_))); (case side4 => exact HC1.out); rintro e w' ⟨rfl, ⟨nd, rfl⟩⟩; (try first | exact ⟨rfl, _, World.drewN_drewN _ _ _⟩ | exact ⟨rfl, _, Eq.trans (World.drewN_drewN _ _ _) (congrArg (World.drewN _) (Nat.add_assoc _ _ _))⟩)) | (go_at_call 18; (with_reducible refine (laws_r8At.calls _ _ l0 0 6 t229 _ ?side1 ?side2 A5.out).mono ?_); (case side1 => repeat (first | exact HR0.out | (with_reducible refine Kd.C_alloc ?_ _) | (with_reducible refine Kd.C_drewN ?_ _) | (with_reducible refine Kd.C_drew ?_))); (case side2 => exact HC0.out); rintro e w' ⟨rfl, ⟨nd, rfl⟩⟩; (try first | exact ⟨rfl, _, World.drewN_drewN _ _ _⟩ | exact ⟨rfl, _, Eq.trans (World.drewN_drewN _ _ _) (congrArg (World.drewN _) (Nat.add_assoc _ _ _))⟩)) | (go_at_call 29; (with_reducible refine (spec_R8Bits.calls k _ _ l1 11 t230 _ ?side1 ?side2 A6.out).mono ?_); (case side1 => repeat (first | exact HR1.out | (with_reducible refine Kd.C_alloc ?_ _) | (with_reducible refine Kd.C_drewN ?_ _) | (with_reducible refine Kd.C_drew ?_))); (case side2 => exact HC1.out); rintro e w13 ⟨rfl, hb⟩; have n0_ := Aside0.mk (below_step (by repeat (first | (with_reducible first | exact HB.out | apply below_alloc | apply pw_below_drewN | apply below_drew1) | exact HB.out)) hb); clear HB; have HB := n0_; clear n0_; (try clear hb); (try clear hb2); (try clear hk); (try clear hi)) | (go_at_call 45; (with_reducible refine (impl_LevelsOf.calls k t229 (t230 ++ (⟨#[48]⟩ : ByteArray)) t231 t232 _ A8.out).mono ?_); rintro e w14 ⟨v233, rfl, ho0, hb⟩; have n0_ := Aside0.mk (Kd.R_lower ho0 (below_size (by repeat (first | (with_reducible first | exact HB.out | apply below_alloc | apply pw_below_drewN | apply below_drew1) | exact HB.out)))); have n1_ := Aside0.mk (below_step (by repeat (first | (with_reducible first | exact HB.out | apply below_alloc | apply pw_below_drewN | apply below_drew1) | exact HB.out)) hb); clear HB; have HO234 := n0_; have HB := n1_; clear n0_ n1_; (try clear hb); (try clear hb2); (try clear hk); (try clear hi); (try clear ho0); obtain ⟨Ao15, co15, eo15⟩ := Kd.R_slice HO234.out; subst eo15) | (go_at_call 46; (with_reducible refine (impl_LongestFlat.calls k _ _ t231 t235 t236 _ ?side1 ?side2 A9.out).mono ?_); (case side1 => repeat (first | exact (Kd.R_reads' HO234.out).2.2 | (with_reducible refine Kd.C_alloc ?_ _) | (with_reducible refine Kd.C_drewN ?_ _) | (with_reducible refine Kd.C_drew ?_))); (case side2 => exact (Kd.R_reads' HO234.out).2.1); rintro e w16 ⟨rfl, hb⟩; have n0_ := Aside0.mk (Kd.R_below (by (with_reducible repeat (first | apply Kd.R_alloc | apply Kd.R_drewN | apply Kd.R_drew)); exact HO234.out) hb); have n1_ := Aside0.mk (below_step (by repeat (first | (with_reducible first | exact HB.out | apply below_alloc | apply pw_below_drewN | apply below_drew1) | exact HB.out)) hb); clear HO234; clear HB; have HO234 := n0_; have HB := n1_; clear n0_ n1_; (try clear hb); (try clear hb2); (try clear hk); (try clear hi)) | (go_at_call 47; (with_reducible refine (impl_WorstFlat.calls k t229 ((t230.size : Int) + 1) t237 t238 _ A10.out).mono ?_); rintro e w17 ⟨rfl, hb⟩; have n0_ := Aside0.mk (Kd.R_below (by (with_reducible repeat (first | apply Kd.R_alloc | apply Kd.R_drewN | apply Kd.R_drew)); exact HO234.out) hb); have n1_ := Aside0.mk (below_step (by repeat (first | (with_reducible first | exact HB.out | apply below_alloc | apply pw_below_drewN | apply below_drew1) | exact HB.out)) hb); clear HO234; clear HB; have HO234 := n0_; have HB := n1_; clear n0_ n1_; (try clear hb); (try clear hb2); (try clear hk); (try clear hi)) | (go_at_call 48; (with_reducible refine (impl_ChangesOf.calls k _ _ t231 t239 t240 _ ?side1 ?side2 A11.out).mono ?_); (case side1 => repeat (first | exact (Kd.R_reads' HO234.out).2.2 | (with_reducible refine Kd.C_alloc ?_ _) | (with_reducible refine Kd.C_drewN ?_ _) | (with_reducible refine Kd.C_drew ?_))); (case side2 => exact (Kd.R_reads' HO234.out).2.1); rintro e w' ⟨rfl, ⟨nd, rfl⟩⟩; (try first | exact ⟨rfl, _, World.drewN_drewN _ _ _⟩ | exact ⟨rfl, _, Eq.trans (World.drewN_drewN _ _ _) (congrArg (World.drewN _) (Nat.add_assoc _ _ _))⟩))); go_upto_region 9 with (first | (go_at_call 17; (with_reducible refine (laws_r8Long.calls _ _ l0 _ _ l1 false _ ?side1 ?side2 ?side3 ?side4 A3.out).mono ?_); (case side1 => repeat (first | exact HR0.out | (with_reducible refine Kd.C_alloc ?_ _) | (with_reducible refine Kd.C_drewN ?_ _) | (with_reducible refine Kd.C_drew ?_))); (case side2 => exact HC0.out); (case side3 => repeat (first | exact HR1.out | (with_reducible refine Kd.C_alloc ?_ _) | (with_reducible refine Kd.C_drewN ?_ _) | (with_reducible refine Kd.C_drew ?_))); (case side4 => exact HC1.out); rintro e w' ⟨rfl, ⟨nd, rfl⟩⟩; (try first | exact ⟨rfl, _, World.drewN_drewN _ _ _⟩ | exact ⟨rfl, _, Eq.trans (World.drewN_drewN _ _ _) (congrArg (World.drewN _) (Nat.add_assoc _ _ _))⟩)) | (go_at_call 18; (with_reducible refine (laws_r8At.calls _ _ l0 0 6 t229 _ ?side1 ?side2 A5.out).mono ?_); (case side1 => repeat (first | exact HR0.out | (with_reducible refine Kd.C_alloc ?_ _) | (with_reducible refine Kd.C_drewN ?_ _) | (with_reducible refine Kd.C_drew ?_))); (case side2 => exact HC0.out); rintro e w' ⟨rfl, ⟨nd, rfl⟩⟩; (try first | exact ⟨rfl, _, World.drewN_drewN _ _ _⟩ | exact ⟨rfl, _, Eq.trans (World.drewN_drewN _ _ _) (congrArg (World.drewN _) (Nat.add_assoc _ _ _))⟩)) | (go_at_call 29; (with_reducible refine (spec_R8Bits.calls k _ _ l1 11 t230 _ ?side1 ?side2 A6.out).mono ?_); (case side1 => repeat (first | exact HR1.out | (with_reducible refine Kd.C_alloc ?_ _) | (with_reducible refine Kd.C_drewN ?_ _) | (with_reducible refine Kd.C_drew ?_))); (case side2 => exact HC1.out); rintro e w13 ⟨rfl, hb⟩; have n0_ := Aside0.mk (below_step (by repeat (first | (with_reducible first | exact HB.out | apply below_alloc | apply pw_below_drewN | apply below_drew1) | exact HB.out)) hb); clear HB; have HB := n0_; clear n0_; (try clear hb); (try clear hb2); (try clear hk); (try clear hi)) | (go_at_call 45; (with_reducible refine (impl_LevelsOf.calls k t229 (t230 ++ (⟨#[48]⟩ : ByteArray)) t231 t232 _ A8.out).mono ?_); rintro e w14 ⟨v233, rfl, ho0, hb⟩; have n0_ := Aside0.mk (Kd.R_lower ho0 (below_size (by repeat (first | (with_reducible first | exact HB.out | apply below_alloc | apply pw_below_drewN | apply below_drew1) | exact HB.out)))); have n1_ := Aside0.mk (below_step (by repeat (first | (with_reducible first | exact HB.out | apply below_alloc | apply pw_below_drewN | apply below_drew1) | exact HB.out)) hb); clear HB; have HO234 := n0_; have HB := n1_; clear n0_ n1_; (try clear hb); (try clear hb2); (try clear hk); (try clear hi); (try clear ho0); obtain ⟨Ao15, co15, eo15⟩ := Kd.R_slice HO234.out; subst eo15) | (go_at_call 46; (with_reducible refine (impl_LongestFlat.calls k _ _ t231 t235 t236 _ ?side1 ?side2 A9.out).mono ?_); (case side1 => repeat (first | exact (Kd.R_reads' HO234.out).2.2 | (with_reducible refine Kd.C_alloc ?_ _) | (with_reducible refine Kd.C_drewN ?_ _) | (with_reducible refine Kd.C_drew ?_))); (case side2 => exact (Kd.R_reads' HO234.out).2.1); rintro e w16 ⟨rfl, hb⟩; have n0_ := Aside0.mk (Kd.R_below (by (with_reducible repeat (first | apply Kd.R_alloc | apply Kd.R_drewN | apply Kd.R_drew)); exact HO234.out) hb); have n1_ := Aside0.mk (below_step (by repeat (first | (with_reducible first | exact HB.out | apply below_alloc | apply pw_below_drewN | apply below_drew1) | exact HB.out)) hb); clear HO234; clear HB; have HO234 := n0_; have HB := n1_; clear n0_ n1_; (try clear hb); (try clear hb2); (try clear hk); (try clear hi)) | (go_at_call 47; (with_reducible refine (impl_WorstFlat.calls k t229 ((t230.size : Int) + 1) t237 t238 _ A10.out).mono ?_); rintro e w17 ⟨rfl, hb⟩; have n0_ := Aside0.mk (Kd.R_below (by (with_reducible repeat (first | apply Kd.R_alloc | apply Kd.R_drewN | apply Kd.R_drew)); exact HO234.out) hb); have n1_ := Aside0.mk (below_step (by repeat (first | (with_reducible first | exact HB.out | apply below_alloc | apply pw_below_drewN | apply below_drew1) | exact HB.out)) hb); clear HO234; clear HB; have HO234 := n0_; have HB := n1_; clear n0_ n1_; (try clear hb); (try clear hb2); (try clear hk); (try clear hi)) | (go_at_call 48; (with_reducible refine (impl_ChangesOf.calls k _ _ t231 t239 t240 _ ?side1 ?side2 A11.out).mono ?_); (case side1 => repeat (first | exact (Kd.R_reads' HO234.out).2.2 | (with_reducible refine Kd.C_alloc ?_ _) | (with_reducible refine Kd.C_drewN ?_ _) | (with_reducible refine Kd.C_drew ?_))); (case side2 => exact (Kd.R_reads' HO234.out).2.1); rintro e w' ⟨rfl, ⟨nd, rfl⟩⟩; (try first | exact ⟨rfl, _, World.drewN_drewN _ _ _⟩ | exact ⟨rfl, _, Eq.trans (World.drewN_drewN _ _ _) (congrArg (World.drewN _) (Nat.add_assoc _ _ _))⟩))))
      (try simp only [Act.put, List.setIfInBounds_toArray, List.set_cons_zero, List.set_cons_succ])
      go_cut [81] (fun v81 wc => ∃ (kq : Nat) (x81_11 : Bool), v81 = .bool x81_11 ∧ Aside0 (laws_FnFlats.j0 kq l0 t229 t231 t239 x81_11 = some r) ∧ Aside0 (kq ≤ k) ∧ Aside0 (Kd.R (Kd.int .i64) 2 wc w.heap.size (fun _ => True) (.slice Ao15 t231.length co15) t231) ∧ Aside0 (Below w.heap.size w wc))
      case first =>
        have H := HC12.out
        clear HC12
        by_cases c18 : t232 = true
        · subst c18
          have H1 : (if t236 = true then (if t238 = true then (if t240 = true then (if t235 < 1 then (laws_FnFlats.j0 k l0 t229 t231 t239 true) else (laws_FnFlats.j0 k l0 t229 t231 t239 (decide (t235 > t237)))) else (laws_FnFlats.j0 k l0 t229 t231 t239 true)) else (laws_FnFlats.j0 k l0 t229 t231 t239 true)) else (laws_FnFlats.j0 k l0 t229 t231 t239 true)) = some r := by rw [if_pos rfl] at H; exact H
          clear H
          have H := H1
          clear H1
          by_cases c19 : t236 = true
          · subst c19
            have H1 : (if t238 = true then (if t240 = true then (if t235 < 1 then (laws_FnFlats.j0 k l0 t229 t231 t239 true) else (laws_FnFlats.j0 k l0 t229 t231 t239 (decide (t235 > t237)))) else (laws_FnFlats.j0 k l0 t229 t231 t239 true)) else (laws_FnFlats.j0 k l0 t229 t231 t239 true)) = some r := by rw [if_pos rfl] at H; exact H
            clear H
            have H := H1
            clear H1
            by_cases c20 : t238 = true
            · subst c20
              have H1 : (if t240 = true then (if t235 < 1 then (laws_FnFlats.j0 k l0 t229 t231 t239 true) else (laws_FnFlats.j0 k l0 t229 t231 t239 (decide (t235 > t237)))) else (laws_FnFlats.j0 k l0 t229 t231 t239 true)) = some r := by rw [if_pos rfl] at H; exact H
              clear H
              have H := H1
              clear H1
              by_cases c21 : t240 = true
              · subst c21
                have H1 : (if t235 < 1 then (laws_FnFlats.j0 k l0 t229 t231 t239 true) else (laws_FnFlats.j0 k l0 t229 t231 t239 (decide (t235 > t237)))) = some r := by rw [if_pos rfl] at H; exact H
                clear H
                have H := H1
                clear H1
                by_cases c22 : t235 < 1
                · rw [if_pos c22] at H
                  have c22b0 : decide (t235 < 1) = true := decide_eq_true c22
                  clear c22
                  (first | rw [c22b0] | (simp only [i64_w, i32_w]; rw [c22b0]) | skip)
                  have H' := Aside0.mk H
                  clear H
                  go_wp2
                  repeat (go_quiet (fail); try go_wp2)
                  go_meet
                  case rel => exact ⟨_, (true), (by first | rfl | (simp; done) | (simp [*]; done)), H', ⟨by first | omega | exact Nat.le_refl _⟩, ⟨by (with_reducible repeat (first | apply Kd.R_alloc | apply Kd.R_drewN | apply Kd.R_drew)); exact HO234.out⟩, ⟨by repeat (first | (with_reducible first | exact HB.out | apply below_alloc | apply pw_below_drewN | apply below_drew1) | exact HB.out)⟩⟩
                · rw [if_neg c22] at H
                  have c22b0 : decide (t235 < 1) = false := decide_eq_false c22
                  clear c22
                  (first | rw [c22b0] | (simp only [i64_w, i32_w]; rw [c22b0]) | skip)
                  have H' := Aside0.mk H
                  clear H
                  go_wp2
                  repeat (go_quiet (fail); try go_wp2)
                  go_meet
                  case rel => exact ⟨_, (decide (t235 > t237)), (by first | rfl | (simp; done) | (simp [*]; done)), H', ⟨by first | omega | exact Nat.le_refl _⟩, ⟨by (with_reducible repeat (first | apply Kd.R_alloc | apply Kd.R_drewN | apply Kd.R_drew)); exact HO234.out⟩, ⟨by repeat (first | (with_reducible first | exact HB.out | apply below_alloc | apply pw_below_drewN | apply below_drew1) | exact HB.out)⟩⟩
              · replace c21 := Bool.eq_false_iff.mpr c21
                subst c21
                have H1 : (laws_FnFlats.j0 k l0 t229 t231 t239 true) = some r := by rw [if_neg (show ¬ (false = true) by decide)] at H; exact H
                clear H
                have H := H1
                clear H1
                have H' := Aside0.mk H
                clear H
                go_wp2
                repeat (go_quiet (fail); try go_wp2)
                go_meet
                case rel => exact ⟨_, (true), (by first | rfl | (simp; done) | (simp [*]; done)), H', ⟨by first | omega | exact Nat.le_refl _⟩, ⟨by (with_reducible repeat (first | apply Kd.R_alloc | apply Kd.R_drewN | apply Kd.R_drew)); exact HO234.out⟩, ⟨by repeat (first | (with_reducible first | exact HB.out | apply below_alloc | apply pw_below_drewN | apply below_drew1) | exact HB.out)⟩⟩
            · replace c20 := Bool.eq_false_iff.mpr c20
              subst c20
              have H1 : (laws_FnFlats.j0 k l0 t229 t231 t239 true) = some r := by rw [if_neg (show ¬ (false = true) by decide)] at H; exact H
              clear H
              have H := H1
              clear H1
              have H' := Aside0.mk H
              clear H
              go_wp2
              repeat (go_quiet (fail); try go_wp2)
              go_meet
              case rel => exact ⟨_, (true), (by first | rfl | (simp; done) | (simp [*]; done)), H', ⟨by first | omega | exact Nat.le_refl _⟩, ⟨by (with_reducible repeat (first | apply Kd.R_alloc | apply Kd.R_drewN | apply Kd.R_drew)); exact HO234.out⟩, ⟨by repeat (first | (with_reducible first | exact HB.out | apply below_alloc | apply pw_below_drewN | apply below_drew1) | exact HB.out)⟩⟩
          · replace c19 := Bool.eq_false_iff.mpr c19
            subst c19
            have H1 : (laws_FnFlats.j0 k l0 t229 t231 t239 true) = some r := by rw [if_neg (show ¬ (false = true) by decide)] at H; exact H
            clear H
            have H := H1
            clear H1
            have H' := Aside0.mk H
            clear H
            go_wp2
            repeat (go_quiet (fail); try go_wp2)
            go_meet
            case rel => exact ⟨_, (true), (by first | rfl | (simp; done) | (simp [*]; done)), H', ⟨by first | omega | exact Nat.le_refl _⟩, ⟨by (with_reducible repeat (first | apply Kd.R_alloc | apply Kd.R_drewN | apply Kd.R_drew)); exact HO234.out⟩, ⟨by repeat (first | (with_reducible first | exact HB.out | apply below_alloc | apply pw_below_drewN | apply below_drew1) | exact HB.out)⟩⟩
        · replace c18 := Bool.eq_false_iff.mpr c18
          subst c18
          have H1 : (laws_FnFlats.j0 k l0 t229 t231 t239 true) = some r := by rw [if_neg (show ¬ (false = true) by decide)] at H; exact H
          clear H
          have H := H1
          clear H1
          have H' := Aside0.mk H
          clear H
          go_wp2
          repeat (go_quiet (fail); try go_wp2)
          go_meet
          case rel => exact ⟨_, (true), (by first | rfl | (simp; done) | (simp [*]; done)), H', ⟨by first | omega | exact Nat.le_refl _⟩, ⟨by (with_reducible repeat (first | apply Kd.R_alloc | apply Kd.R_drewN | apply Kd.R_drew)); exact HO234.out⟩, ⟨by repeat (first | (with_reducible first | exact HB.out | apply below_alloc | apply pw_below_drewN | apply below_drew1) | exact HB.out)⟩⟩
      case rest =>
        clear HC12
        try clear c1
        try clear c2
        try clear p2
        try clear c4
        try clear c7
        try clear c7b0
        try clear c7b1
        try clear c7b2
        try clear c14
        try clear c18
        try clear c19
        try clear c20
        try clear c21
        try clear c22
        try clear c22b0
        obtain ⟨kq, x81_11, rfl, HA, HJ11, HO_7, HB⟩ := hcut
        cases kq with
        | zero => exact absurd HA.out (by simp [laws_FnFlats.j0])
        | succ kj11 =>
          have H := HA.out
          clear HA
          simp only [laws_FnFlats.j0] at H
          by_cases c23 : x81_11 = true
          · subst c23
            have H1 : (some false) = some r := by rw [if_pos rfl] at H; exact H
            clear H
            have H := H1
            clear H1
            obtain rfl := Option.some.inj H
            go_wp2
            repeat (go_quiet (fail); try go_wp2)
            go_ret
            exact ⟨by first | rfl | (simp [errW_none, errW_some] <;> rfl) | (simp [*, errW_none, errW_some] <;> rfl), by repeat (first | (with_reducible first | exact HB.out | apply below_alloc | apply pw_below_drewN | apply below_drew1) | exact HB.out)⟩
          · replace c23 := Bool.eq_false_iff.mpr c23
            subst c23
            have H1 : (laws_FnFlats.l0 kj11 l0 t229 t231 t239 0 1) = some r := by rw [if_neg (show ¬ (false = true) by decide)] at H; exact H
            clear H
            have H := H1
            clear H1
            have H' := Aside0.mk H
            clear H
            go_wp2
            repeat (go_quiet (fail); try go_wp2)
            go_loopg [15, 16] kj11 (fun kq v15 v16 w' => ∃ (x15_2 : Int) (x16_2 : Int), v15 = .int .i64 x15_2 ∧ v16 = .int .i64 x16_2 ∧ Aside0 (laws_FnFlats.l0 kq l0 t229 t231 t239 x15_2 x16_2 = some r) ∧ Aside0 (kq ≤ kj11) ∧ Aside0 (Kd.R (Kd.int .i64) 2 w' w.heap.size (fun _ => True) (.slice Ao15 t231.length co15) t231) ∧ Aside0 (Below w.heap.size w w'))
            case atStart => exact ⟨(0), (1), (by first | rfl | (simp; done) | (simp [*]; done)), (by first | rfl | (simp; done) | (simp [*]; done)), H', ⟨Nat.le_refl _⟩, ⟨by (with_reducible repeat (first | apply Kd.R_alloc | apply Kd.R_drewN | apply Kd.R_drew)); exact HO_7.out⟩, ⟨by repeat (first | (with_reducible first | exact HB.out | apply below_alloc | apply pw_below_drewN | apply below_drew1) | exact HB.out)⟩⟩
            case round =>
              clear H'
              try clear c1
              try clear c2
              try clear p2
              try clear c4
              try clear c7
              try clear c7b0
              try clear c7b1
              try clear c7b2
              try clear c14
              try clear c18
              try clear c19
              try clear c20
              try clear c21
              try clear c22
              try clear c22b0
              try clear c23
              try clear p2
              obtain ⟨x15_2, x16_2, rfl, rfl, HA, HK2, HO_7, HB⟩ := hrel
              cases gk with
              | zero => exact absurd HA.out (by simp [laws_FnFlats.l0])
              | succ k2 =>
                have H := HA.out
                clear HA
                simp only [laws_FnFlats.l0] at H
                by_cases c24 : x16_2 < (t231.length : Int)
                · rw [if_pos c24] at H
                  have c24b0 : decide (x16_2 < (t231.length : Int)) = true := decide_eq_true c24
                  clear c24
                  by_cases c25 : 0 ≤ x16_2
                  · rw [if_pos c25] at H
                    have c25b0 : decide (0 ≤ x16_2) = true := decide_eq_true c25
                    clear c25
                    obtain ⟨ji26, hji26⟩ : ∃ j_ : Int, (wrap64 (x16_2 - 1)) = j_ := ⟨_, rfl⟩
                    replace H : (if 0 ≤ (ji26) then (if (ji26) < (t231.length : Int) then (if (rd t231 x16_2) = (rd t231 (ji26)) then (laws_FnFlats.l0 k2 l0 t229 t231 t239 (wrap64 (x15_2 + 1)) (wrap64 (x16_2 + 1))) else (laws_FnFlats.l0 k2 l0 t229 t231 t239 x15_2 (wrap64 (x16_2 + 1)))) else (none)) else (none)) = some r := by first | (rw [hji26] at H; exact H) | (simp only [hji26] at H ⊢; exact H)
                    have hji26w : (IntKind.i64.wrap (x16_2 - 1)) = ji26 := (i64_w _).trans hji26
                    (try rw [hji26])
                    by_cases c27 : 0 ≤ (ji26)
                    · rw [if_pos c27] at H
                      have c27b0 : decide (0 ≤ (ji26)) = true := decide_eq_true c27
                      clear c27
                      by_cases c28 : (ji26) < (t231.length : Int)
                      · rw [if_pos c28] at H
                        have c28b0 : decide ((ji26) < (t231.length : Int)) = true := decide_eq_true c28
                        clear c28
                        by_cases c29 : (rd t231 x16_2) = (rd t231 (ji26))
                        · rw [if_pos c29] at H
                          have c29b0 : ((rd t231 x16_2) == (rd t231 (ji26))) = true := beq_iff_eq.mpr c29
                          have c29b1 : ((rd t231 x16_2) != (rd t231 (ji26))) = false := bne_eq_false_iff_eq.mpr c29
                          clear c29
                          have H' := Aside0.mk H
                          clear H
                          have p241 : 0 ≤ (x16_2 : Int) := of_decide_eq_true (by first | (with_reducible assumption) | assumption)
                          have q241 : x16_2 < (t231.length : Int) := of_decide_eq_true (by first | (with_reducible assumption) | assumption)
                          obtain ⟨ad241, e241, hx241_0⟩ := Kd.at_int (Kd.R_reads' HO_7.out).2.2 x16_2 p241 q241
                          cases e241
                          replace p241 := eq_true p241
                          replace q241 := eq_true q241
                          have p242 : 0 ≤ ((ji26) : Int) := of_decide_eq_true (by first | (with_reducible assumption) | assumption)
                          have q242 : (ji26) < (t231.length : Int) := of_decide_eq_true (by first | (with_reducible assumption) | assumption)
                          obtain ⟨ad242, e242, hx242_0⟩ := Kd.at_int (Kd.R_reads' HO_7.out).2.2 (ji26) p242 q242
                          obtain rfl : ad241 = ad242 := (by injection e242)
                          replace p242 := eq_true p242
                          replace q242 := eq_true q242
                          go_wp2
                          repeat (go_quiet (fail); try go_wp2)
                          go_roundg k2
                          case measure => have := HJ11.out; have := HK2.out; omega
                          case rel => exact ⟨(wrap64 (x15_2 + 1)), (wrap64 (x16_2 + 1)), (by first | rfl | (simp; done) | (simp [*]; done)), (by first | rfl | (simp; done) | (simp [*]; done)), H', ⟨by have := HJ11.out; have := HK2.out; omega⟩, ⟨by (with_reducible repeat (first | apply Kd.R_alloc | apply Kd.R_drewN | apply Kd.R_drew)); exact HO_7.out⟩, ⟨by repeat (first | (with_reducible first | exact HB.out | apply below_alloc | apply pw_below_drewN | apply below_drew1) | exact HB.out)⟩⟩
                        · rw [if_neg c29] at H
                          have c29b0 : ((rd t231 x16_2) == (rd t231 (ji26))) = false := beq_eq_false_iff_ne.mpr c29
                          have c29b1 : ((rd t231 x16_2) != (rd t231 (ji26))) = true := bne_iff_ne.mpr c29
                          have H' := Aside0.mk H
                          clear H
                          have p241 : 0 ≤ (x16_2 : Int) := of_decide_eq_true (by first | (with_reducible assumption) | assumption)
                          have q241 : x16_2 < (t231.length : Int) := of_decide_eq_true (by first | (with_reducible assumption) | assumption)
                          obtain ⟨ad241, e241, hx241_0⟩ := Kd.at_int (Kd.R_reads' HO_7.out).2.2 x16_2 p241 q241
                          cases e241
                          replace p241 := eq_true p241
                          replace q241 := eq_true q241
                          have p242 : 0 ≤ ((ji26) : Int) := of_decide_eq_true (by first | (with_reducible assumption) | assumption)
                          have q242 : (ji26) < (t231.length : Int) := of_decide_eq_true (by first | (with_reducible assumption) | assumption)
                          obtain ⟨ad242, e242, hx242_0⟩ := Kd.at_int (Kd.R_reads' HO_7.out).2.2 (ji26) p242 q242
                          obtain rfl : ad241 = ad242 := (by injection e242)
                          replace p242 := eq_true p242
                          replace q242 := eq_true q242
                          go_wp2
                          repeat (go_quiet (fail); try go_wp2)
                          go_roundg k2
                          case measure => have := HJ11.out; have := HK2.out; omega
                          case rel => exact ⟨(x15_2), (wrap64 (x16_2 + 1)), (by first | rfl | (simp; done) | (simp [*]; done)), (by first | rfl | (simp; done) | (simp [*]; done)), H', ⟨by have := HJ11.out; have := HK2.out; omega⟩, ⟨by (with_reducible repeat (first | apply Kd.R_alloc | apply Kd.R_drewN | apply Kd.R_drew)); exact HO_7.out⟩, ⟨by repeat (first | (with_reducible first | exact HB.out | apply below_alloc | apply pw_below_drewN | apply below_drew1) | exact HB.out)⟩⟩
                      · rw [if_neg c28] at H
                        exact absurd H (by simp)
                    · rw [if_neg c27] at H
                      exact absurd H (by simp)
                  · rw [if_neg c25] at H
                    exact absurd H (by simp)
                · rw [if_neg c24] at H
                  have c24b0 : decide (x16_2 < (t231.length : Int)) = false := decide_eq_false c24
                  clear c24
                  by_cases c30 : (wrap64 (x15_2 + t239)) = (wrap64 ((t231.length : Int) - 1))
                  · rw [if_pos c30] at H
                    have c30b0 : ((wrap64 (x15_2 + t239)) == (wrap64 ((t231.length : Int) - 1))) = true := beq_iff_eq.mpr c30
                    have c30b1 : ((wrap64 (x15_2 + t239)) != (wrap64 ((t231.length : Int) - 1))) = false := bne_eq_false_iff_eq.mpr c30
                    clear c30
                    replace H := Option.bind_eq_some_iff.mp H
                    obtain ⟨t243, A310, H⟩ := H
                    replace H : (laws_FnFlats.l1 k2 t229 (wrap64 (1 + t243)) 0 0) = some r := H
                    have A31 := Aside0.mk A310
                    clear A310
                    have H' := Aside0.mk H
                    clear H
                    go_wp2_with (first | (go_at_call 18; (with_reducible refine (laws_r8At.calls _ _ l0 1 7 t243 _ ?side1 ?side2 A31.out).mono ?_); (case side1 => repeat (first | exact (Kd.C_below HR0.out HB.out) | (with_reducible refine Kd.C_alloc ?_ _) | (with_reducible refine Kd.C_drewN ?_ _) | (with_reducible refine Kd.C_drew ?_))); (case side2 => exact HC0.out); rintro e w' ⟨rfl, ⟨nd, rfl⟩⟩; (try first | exact ⟨rfl, _, World.drewN_drewN _ _ _⟩ | exact ⟨rfl, _, Eq.trans (World.drewN_drewN _ _ _) (congrArg (World.drewN _) (Nat.add_assoc _ _ _))⟩)))
                    repeat (go_quiet (first | (go_at_call 18; (with_reducible refine (laws_r8At.calls _ _ l0 1 7 t243 _ ?side1 ?side2 A31.out).mono ?_); (case side1 => repeat (first | exact (Kd.C_below HR0.out HB.out) | (with_reducible refine Kd.C_alloc ?_ _) | (with_reducible refine Kd.C_drewN ?_ _) | (with_reducible refine Kd.C_drew ?_))); (case side2 => exact HC0.out); rintro e w' ⟨rfl, ⟨nd, rfl⟩⟩; (try first | exact ⟨rfl, _, World.drewN_drewN _ _ _⟩ | exact ⟨rfl, _, Eq.trans (World.drewN_drewN _ _ _) (congrArg (World.drewN _) (Nat.add_assoc _ _ _))⟩))); try go_wp2_with (first | (go_at_call 18; (with_reducible refine (laws_r8At.calls _ _ l0 1 7 t243 _ ?side1 ?side2 A31.out).mono ?_); (case side1 => repeat (first | exact (Kd.C_below HR0.out HB.out) | (with_reducible refine Kd.C_alloc ?_ _) | (with_reducible refine Kd.C_drewN ?_ _) | (with_reducible refine Kd.C_drew ?_))); (case side2 => exact HC0.out); rintro e w' ⟨rfl, ⟨nd, rfl⟩⟩; (try first | exact ⟨rfl, _, World.drewN_drewN _ _ _⟩ | exact ⟨rfl, _, Eq.trans (World.drewN_drewN _ _ _) (congrArg (World.drewN _) (Nat.add_assoc _ _ _))⟩))))
                    go_loopg [18, 19] k2 (fun kq v18 v19 w' => ∃ (x18_3 : Int) (x19_3 : Int), v18 = .int .i64 x18_3 ∧ v19 = .int .i64 x19_3 ∧ Aside0 (laws_FnFlats.l1 kq t229 (wrap64 (1 + t243)) x18_3 x19_3 = some r) ∧ Aside0 (kq ≤ k2) ∧ Aside0 (Below w.heap.size w w'))
                    case atStart => exact ⟨(0), (0), (by first | rfl | (simp; done) | (simp [*]; done)), (by first | rfl | (simp; done) | (simp [*]; done)), H', ⟨Nat.le_refl _⟩, ⟨by repeat (first | (with_reducible first | exact HB.out | apply below_alloc | apply pw_below_drewN | apply below_drew1) | exact HB.out)⟩⟩
                    case round =>
                      clear H'
                      try clear c1
                      try clear c2
                      try clear p2
                      try clear q2
                      try clear hx2
                      try clear c3
                      try clear c4
                      try clear p6
                      try clear c7
                      try clear c7b0
                      try clear c7b1
                      try clear c7b2
                      try clear c14
                      try clear c18
                      try clear c19
                      try clear c20
                      try clear c21
                      try clear c22
                      try clear c22b0
                      try clear c23
                      try clear c24
                      try clear c24b0
                      try clear p24
                      try clear q24
                      try clear hx24
                      try clear c25
                      try clear c25b0
                      try clear c27
                      try clear c27b0
                      try clear c28
                      try clear c28b0
                      try clear c29
                      try clear c29b0
                      try clear c29b1
                      try clear c30
                      try clear c30b0
                      try clear c30b1
                      try clear hx241_0
                      try clear hx242_0
                      try clear p2
                      try clear p241
                      try clear p242
                      try clear q241
                      try clear q242
                      obtain ⟨x18_3, x19_3, rfl, rfl, HA, HK3, HB⟩ := hrel
                      cases gk with
                      | zero => exact absurd HA.out (by simp [laws_FnFlats.l1])
                      | succ k3 =>
                        have H := HA.out
                        clear HA
                        simp only [laws_FnFlats.l1] at H
                        obtain ⟨ji32, hji32⟩ : ∃ j_ : Int, (IntKind.u64.wrap ((wrap64 (1 + t243)))) = j_ := ⟨_, rfl⟩
                        replace H : (if 0 ≤ (ji32) then (if x19_3 < (shl .i64 1 (ji32)) then (laws_FnFlats.l2 k3 t229 (wrap64 (1 + t243)) x18_3 x19_3 (⟨#[]⟩ : ByteArray) (wrap64 ((wrap64 (1 + t243)) - 1))) else ((impl_WorstFlat.f k3 t229 (wrap64 (1 + t243))).bind fun bt244 => (if bt244.2 = true then (some (bt244.1 == x18_3)) else (some false)))) else (none)) = some r := by first | (rw [hji32] at H; exact H) | (simp only [hji32] at H ⊢; exact H)
                        by_cases c33 : 0 ≤ (ji32)
                        · rw [if_pos c33] at H
                          have c33b0 := eq_true c33
                          have c33b1 : decide (0 ≤ (ji32)) = true := decide_eq_true c33
                          clear c33
                          obtain ⟨ji34, hji34⟩ : ∃ j_ : Int, (shl .i64 1 (ji32)) = j_ := ⟨_, rfl⟩
                          replace H : (if x19_3 < (ji34) then (laws_FnFlats.l2 k3 t229 (wrap64 (1 + t243)) x18_3 x19_3 (⟨#[]⟩ : ByteArray) (wrap64 ((wrap64 (1 + t243)) - 1))) else ((impl_WorstFlat.f k3 t229 (wrap64 (1 + t243))).bind fun bt244 => (if bt244.2 = true then (some (bt244.1 == x18_3)) else (some false)))) = some r := by first | (rw [hji34] at H; exact H) | (simp only [hji34] at H ⊢; exact H)
                          have hji34_ : (IntKind.i64.wrap (1 * 2 ^ min (ji32).toNat 64)) = ji34 := hji34
                          have hji34z : (ji32) ≤ 64 → (IntKind.i64.wrap (1 * 2 ^ (ji32).toNat)) = ji34 := shl_small hji34
                          have hji34u : (IntKind.i64.wrap (2 ^ min (ji32).toNat 64)) = ji34 := by have h_ := hji34_; rw [Int.one_mul] at h_; exact h_
                          have hji34v : (ji32) ≤ 64 → (IntKind.i64.wrap (2 ^ (ji32).toNat)) = ji34 := fun hle_ => by have h_ := hji34z hle_; rw [Int.one_mul] at h_; exact h_
                          have hji34y : (wrap64 (1 * 2 ^ min (ji32).toNat 64)) = ji34 := (i64_w _).symm.trans hji34_
                          have hji34x : (ji32) ≤ 64 → (wrap64 (1 * 2 ^ (ji32).toNat)) = ji34 := fun h_ => (i64_w _).symm.trans (hji34z h_)
                          by_cases c35 : x19_3 < (ji34)
                          · rw [if_pos c35] at H
                            have c35b0 : decide (x19_3 < (ji34)) = true := decide_eq_true c35
                            clear c35
                            have H' := Aside0.mk H
                            clear H
                            go_wp2
                            repeat (go_quiet (fail); try go_wp2)
                            go_loopg [20, 21] k3 (fun kq v20 v21 w' => ∃ (x20_4 : ByteArray) (x21_4 : Int), v20 = .string x20_4 ∧ v21 = .int .i64 x21_4 ∧ Aside0 (laws_FnFlats.l2 kq t229 (wrap64 (1 + t243)) x18_3 x19_3 x20_4 x21_4 = some r) ∧ Aside0 (kq ≤ k3) ∧ Aside0 (Below w.heap.size w w'))
                            case atStart => exact ⟨((⟨#[]⟩ : ByteArray)), (wrap64 ((wrap64 (1 + t243)) - 1)), (by first | rfl | (simp; done) | (simp [*]; done)), (by first | rfl | (simp; done) | (simp [*]; done)), H', ⟨Nat.le_refl _⟩, ⟨by repeat (first | (with_reducible first | exact HB.out | apply below_alloc | apply pw_below_drewN | apply below_drew1) | exact HB.out)⟩⟩
                            case round =>
                              clear H'
                              try clear c1
                              try clear c2
                              try clear p2
                              try clear q2
                              try clear hx2
                              try clear c3
                              try clear c4
                              try clear p6
                              try clear c7
                              try clear c7b0
                              try clear c7b1
                              try clear c7b2
                              try clear c14
                              try clear c18
                              try clear c19
                              try clear c20
                              try clear c21
                              try clear c22
                              try clear c22b0
                              try clear c23
                              try clear c24
                              try clear c24b0
                              try clear p24
                              try clear q24
                              try clear hx24
                              try clear c25
                              try clear c25b0
                              try clear c27
                              try clear c27b0
                              try clear c28
                              try clear c28b0
                              try clear c29
                              try clear c29b0
                              try clear c29b1
                              try clear c30
                              try clear c30b0
                              try clear c30b1
                              try clear c33
                              try clear c33b0
                              try clear c33b1
                              try clear c35
                              try clear c35b0
                              try clear hx241_0
                              try clear hx242_0
                              try clear p2
                              try clear p24
                              try clear p241
                              try clear p242
                              try clear p6
                              try clear q2
                              try clear q24
                              try clear q241
                              try clear q242
                              obtain ⟨x20_4, x21_4, rfl, rfl, HA, HK4, HB⟩ := hrel
                              cases gk with
                              | zero => exact absurd HA.out (by simp [laws_FnFlats.l2])
                              | succ k4 =>
                                have H := HA.out
                                clear HA
                                simp only [laws_FnFlats.l2] at H
                                by_cases c36 : x21_4 ≥ 0
                                · rw [if_pos c36] at H
                                  have c36b0 : decide (0 ≤ x21_4) = true := decide_eq_true c36
                                  clear c36
                                  obtain ⟨ji37, hji37⟩ : ∃ j_ : Int, (IntKind.u64.wrap (x21_4)) = j_ := ⟨_, rfl⟩
                                  replace H : (if 0 ≤ (ji37) then ((some (([(wrap64 (48 + (Go.bits .and .i64 (shr .i64 x19_3 (ji37)) 1))) % 256] : List Int) : List Int)).bind fun y246 => (if x20_4.size + (strOfNums y246).size ≤ 9223372036854775807 then (laws_FnFlats.l2 k4 t229 (wrap64 (1 + t243)) x18_3 x19_3 (x20_4 ++ (strOfNums y246)) (wrap64 (x21_4 - 1))) else (none))) else (none)) = some r := by first | (rw [hji37] at H; exact H) | (simp only [hji37] at H ⊢; exact H)
                                  by_cases c38 : 0 ≤ (ji37)
                                  · rw [if_pos c38] at H
                                    have c38b0 := eq_true c38
                                    have c38b1 : decide (0 ≤ (ji37)) = true := decide_eq_true c38
                                    clear c38
                                    obtain ⟨ji39, hji39⟩ : ∃ j_ : Int, (shr .i64 x19_3 (ji37)) = j_ := ⟨_, rfl⟩
                                    replace H : ((some (([(wrap64 (48 + (Go.bits .and .i64 (ji39) 1))) % 256] : List Int) : List Int)).bind fun y246 => (if x20_4.size + (strOfNums y246).size ≤ 9223372036854775807 then (laws_FnFlats.l2 k4 t229 (wrap64 (1 + t243)) x18_3 x19_3 (x20_4 ++ (strOfNums y246)) (wrap64 (x21_4 - 1))) else (none))) = some r := by first | (rw [hji39] at H; exact H) | (simp only [hji39] at H ⊢; exact H)
                                    have hji39_ : (x19_3 / 2 ^ min (ji37).toNat 64) = ji39 := hji39
                                    have hji39z : (ji37) ≤ 64 → (x19_3 / 2 ^ (ji37).toNat) = ji39 := shr_small hji39
                                    obtain ⟨y246, hy246⟩ : ∃ y_ : List Int, y_ = (([(wrap64 (48 + (Go.bits .and .i64 (ji39) 1))) % 256] : List Int)) := ⟨_, rfl⟩
                                    replace H : (if x20_4.size + (strOfNums y246).size ≤ 9223372036854775807 then (laws_FnFlats.l2 k4 t229 (wrap64 (1 + t243)) x18_3 x19_3 (x20_4 ++ (strOfNums y246)) (wrap64 (x21_4 - 1))) else (none)) = some r := by first | (rw [hy246]; with_reducible exact H) | (have H2_ := (Option.bind_some _ _).symm.trans H; rw [hy246]; with_reducible exact H2_) | (have H2_ := (Option.bind_some _ _).symm.trans H; with_reducible exact H2_) | with_reducible exact H | (rw [hy246]; exact H) | exact H
                                    have Ny246 := Aside0.mk hy246
                                    clear hy246
                                    by_cases c40 : x20_4.size + (strOfNums y246).size ≤ 9223372036854775807
                                    · rw [if_pos c40] at H
                                      have c40b0 := eq_true c40
                                      have c40b1 : decide (x20_4.size + (strOfNums y246).size ≤ 9223372036854775807) = true := decide_eq_true c40
                                      try have c40b2 : (9223372036854775807 < x20_4.size + (strOfNums y246).size) = False := eq_false (Nat.not_lt.2 c40)
                                      have H' := Aside0.mk H
                                      clear H
                                      go_wp2_with (first | ((with_reducible refine gate_dst (N := 131) rfl ?_); refine Kd.R_lit (Kd.int .u8) _ 5 ?hg (N := 131) ?hd (xs := ([(wrap64 (48 + (Go.bits .and .i64 (ji39) 1))) % 256] : List Int)) (inner := [.int .u8 ((wrap64 (48 + (Go.bits .and .i64 (ji39) 1))) % 256)]) (ok := fun _ => True) (okp := fun _ => True) ?hr ?hp (fun _ hk => hk) trivial (Below.refl _ _) (Nat.le_refl _) (by simp) ?_; (case hd => rfl); (case hg => rfl); (case hr => first | (go_simp; done) | (go_simp; rfl)); (case hp => exact (Reps.one (show Kd.M (Kd.int .u8) _ _ _ ((wrap64 (48 + (Go.bits .and .i64 (ji39) 1))) % 256) [.int .u8 ((wrap64 (48 + (Go.bits .and .i64 (ji39) 1))) % 256)] from rfl) (Reps.none _ _))); intro v247 w41 ho42 hb hg_ hnew_; clear hg_ hnew_; (first | rw [← Ny246.out] at ho42 | (simp only [Int.reduceToNat] at ho42; rw [← Ny246.out] at ho42)); have n0_ := Aside0.mk (Kd.R_lower ho42 (below_size (by repeat (first | (with_reducible first | exact HB.out | apply below_alloc | apply pw_below_drewN | apply below_drew1) | exact HB.out)))); have n1_ := Aside0.mk (below_step (by repeat (first | (with_reducible first | exact HB.out | apply below_alloc | apply pw_below_drewN | apply below_drew1) | exact HB.out)) hb); clear HB; have HO248 := n0_; have HB := n1_; clear n0_ n1_; clear hb ho42; have hcv43 := own_string (P := Tryd.prog) Tryd.underlying25 Tryd.underlying5 Tryd.underlying9 (Kd.own_of_R HO248.out)))
                                      repeat (go_quiet (first | ((with_reducible refine gate_dst (N := 131) rfl ?_); refine Kd.R_lit (Kd.int .u8) _ 5 ?hg (N := 131) ?hd (xs := ([(wrap64 (48 + (Go.bits .and .i64 (ji39) 1))) % 256] : List Int)) (inner := [.int .u8 ((wrap64 (48 + (Go.bits .and .i64 (ji39) 1))) % 256)]) (ok := fun _ => True) (okp := fun _ => True) ?hr ?hp (fun _ hk => hk) trivial (Below.refl _ _) (Nat.le_refl _) (by simp) ?_; (case hd => rfl); (case hg => rfl); (case hr => first | (go_simp; done) | (go_simp; rfl)); (case hp => exact (Reps.one (show Kd.M (Kd.int .u8) _ _ _ ((wrap64 (48 + (Go.bits .and .i64 (ji39) 1))) % 256) [.int .u8 ((wrap64 (48 + (Go.bits .and .i64 (ji39) 1))) % 256)] from rfl) (Reps.none _ _))); intro v247 w41 ho42 hb hg_ hnew_; clear hg_ hnew_; (first | rw [← Ny246.out] at ho42 | (simp only [Int.reduceToNat] at ho42; rw [← Ny246.out] at ho42)); have n0_ := Aside0.mk (Kd.R_lower ho42 (below_size (by repeat (first | (with_reducible first | exact HB.out | apply below_alloc | apply pw_below_drewN | apply below_drew1) | exact HB.out)))); have n1_ := Aside0.mk (below_step (by repeat (first | (with_reducible first | exact HB.out | apply below_alloc | apply pw_below_drewN | apply below_drew1) | exact HB.out)) hb); clear HB; have HO248 := n0_; have HB := n1_; clear n0_ n1_; clear hb ho42; have hcv43 := own_string (P := Tryd.prog) Tryd.underlying25 Tryd.underlying5 Tryd.underlying9 (Kd.own_of_R HO248.out))); try go_wp2_with (first | ((with_reducible refine gate_dst (N := 131) rfl ?_); refine Kd.R_lit (Kd.int .u8) _ 5 ?hg (N := 131) ?hd (xs := ([(wrap64 (48 + (Go.bits .and .i64 (ji39) 1))) % 256] : List Int)) (inner := [.int .u8 ((wrap64 (48 + (Go.bits .and .i64 (ji39) 1))) % 256)]) (ok := fun _ => True) (okp := fun _ => True) ?hr ?hp (fun _ hk => hk) trivial (Below.refl _ _) (Nat.le_refl _) (by simp) ?_; (case hd => rfl); (case hg => rfl); (case hr => first | (go_simp; done) | (go_simp; rfl)); (case hp => exact (Reps.one (show Kd.M (Kd.int .u8) _ _ _ ((wrap64 (48 + (Go.bits .and .i64 (ji39) 1))) % 256) [.int .u8 ((wrap64 (48 + (Go.bits .and .i64 (ji39) 1))) % 256)] from rfl) (Reps.none _ _))); intro v247 w41 ho42 hb hg_ hnew_; clear hg_ hnew_; (first | rw [← Ny246.out] at ho42 | (simp only [Int.reduceToNat] at ho42; rw [← Ny246.out] at ho42)); have n0_ := Aside0.mk (Kd.R_lower ho42 (below_size (by repeat (first | (with_reducible first | exact HB.out | apply below_alloc | apply pw_below_drewN | apply below_drew1) | exact HB.out)))); have n1_ := Aside0.mk (below_step (by repeat (first | (with_reducible first | exact HB.out | apply below_alloc | apply pw_below_drewN | apply below_drew1) | exact HB.out)) hb); clear HB; have HO248 := n0_; have HB := n1_; clear n0_ n1_; clear hb ho42; have hcv43 := own_string (P := Tryd.prog) Tryd.underlying25 Tryd.underlying5 Tryd.underlying9 (Kd.own_of_R HO248.out))))
                                      go_roundg k4
                                      case measure => have := HJ11.out; have := HK2.out; have := HK3.out; have := HK4.out; omega
                                      case rel => exact ⟨(x20_4 ++ (strOfNums y246)), (wrap64 (x21_4 - 1)), (by first | rfl | (simp; done) | (simp [*]; done)), (by first | rfl | (simp; done) | (simp [*]; done)), H', ⟨by have := HJ11.out; have := HK2.out; have := HK3.out; have := HK4.out; omega⟩, ⟨by repeat (first | (with_reducible first | exact HB.out | apply below_alloc | apply pw_below_drewN | apply below_drew1) | exact HB.out)⟩⟩
                                    · rw [if_neg c40] at H
                                      exact absurd H (by simp)
                                  · rw [if_neg c38] at H
                                    exact absurd H (by simp)
                                · rw [if_neg c36] at H
                                  have c36b0 : decide (0 ≤ x21_4) = false := decide_eq_false c36
                                  clear c36
                                  replace H := Option.bind_eq_some_iff.mp H
                                  obtain ⟨⟨t249, t250⟩, A440, H⟩ := H
                                  replace H : ((impl_LongestFlat.f k4 t249).bind fun bt253 => (if t250 = true then (laws_FnFlats.j4 k4 t229 (wrap64 (1 + t243)) x18_3 x19_3 bt253.1 (!bt253.2)) else (laws_FnFlats.j4 k4 t229 (wrap64 (1 + t243)) x18_3 x19_3 bt253.1 true))) = some r := H
                                  have A44 := Aside0.mk A440
                                  clear A440
                                  replace H := Option.bind_eq_some_iff.mp H
                                  obtain ⟨⟨t253, t254⟩, A450, H⟩ := H
                                  replace H : (if t250 = true then (laws_FnFlats.j4 k4 t229 (wrap64 (1 + t243)) x18_3 x19_3 t253 (!t254)) else (laws_FnFlats.j4 k4 t229 (wrap64 (1 + t243)) x18_3 x19_3 t253 true)) = some r := H
                                  have A45 := Aside0.mk A450
                                  clear A450
                                  have HC46 := Aside0.mk H
                                  clear H
                                  go_upto_region 31 with (first | (go_at_call 45; (with_reducible refine (impl_LevelsOf.calls k4 t229 x20_4 t249 t250 _ A44.out).mono ?_); rintro e w47 ⟨v251, rfl, ho0, hb⟩; have n0_ := Aside0.mk (Kd.R_lower ho0 (below_size (by repeat (first | (with_reducible first | exact HB.out | apply below_alloc | apply pw_below_drewN | apply below_drew1) | exact HB.out)))); have n1_ := Aside0.mk (below_step (by repeat (first | (with_reducible first | exact HB.out | apply below_alloc | apply pw_below_drewN | apply below_drew1) | exact HB.out)) hb); clear HB; have HO252 := n0_; have HB := n1_; clear n0_ n1_; (try clear hb); (try clear hb2); (try clear hk); (try clear hi); (try clear ho0); obtain ⟨Ao48, co48, eo48⟩ := Kd.R_slice HO252.out; subst eo48) | (go_at_call 46; (with_reducible refine (impl_LongestFlat.calls k4 _ _ t249 t253 t254 _ ?side1 ?side2 A45.out).mono ?_); (case side1 => repeat (first | exact (Kd.R_reads' HO252.out).2.2 | (with_reducible refine Kd.C_alloc ?_ _) | (with_reducible refine Kd.C_drewN ?_ _) | (with_reducible refine Kd.C_drew ?_))); (case side2 => exact (Kd.R_reads' HO252.out).2.1); rintro e w49 ⟨rfl, hb⟩; have n0_ := Aside0.mk (Kd.R_below (by (with_reducible repeat (first | apply Kd.R_alloc | apply Kd.R_drewN | apply Kd.R_drew)); exact HO252.out) hb); have n1_ := Aside0.mk (below_step (by repeat (first | (with_reducible first | exact HB.out | apply below_alloc | apply pw_below_drewN | apply below_drew1) | exact HB.out)) hb); clear HO252; clear HB; have HO252 := n0_; have HB := n1_; clear n0_ n1_; (try clear hb); (try clear hb2); (try clear hk); (try clear hi)))
                                  repeat (go_quiet (first | (go_at_call 45; (with_reducible refine (impl_LevelsOf.calls k4 t229 x20_4 t249 t250 _ A44.out).mono ?_); rintro e w47 ⟨v251, rfl, ho0, hb⟩; have n0_ := Aside0.mk (Kd.R_lower ho0 (below_size (by repeat (first | (with_reducible first | exact HB.out | apply below_alloc | apply pw_below_drewN | apply below_drew1) | exact HB.out)))); have n1_ := Aside0.mk (below_step (by repeat (first | (with_reducible first | exact HB.out | apply below_alloc | apply pw_below_drewN | apply below_drew1) | exact HB.out)) hb); clear HB; have HO252 := n0_; have HB := n1_; clear n0_ n1_; (try clear hb); (try clear hb2); (try clear hk); (try clear hi); (try clear ho0); obtain ⟨Ao48, co48, eo48⟩ := Kd.R_slice HO252.out; subst eo48) | (go_at_call 46; (with_reducible refine (impl_LongestFlat.calls k4 _ _ t249 t253 t254 _ ?side1 ?side2 A45.out).mono ?_); (case side1 => repeat (first | exact (Kd.R_reads' HO252.out).2.2 | (with_reducible refine Kd.C_alloc ?_ _) | (with_reducible refine Kd.C_drewN ?_ _) | (with_reducible refine Kd.C_drew ?_))); (case side2 => exact (Kd.R_reads' HO252.out).2.1); rintro e w49 ⟨rfl, hb⟩; have n0_ := Aside0.mk (Kd.R_below (by (with_reducible repeat (first | apply Kd.R_alloc | apply Kd.R_drewN | apply Kd.R_drew)); exact HO252.out) hb); have n1_ := Aside0.mk (below_step (by repeat (first | (with_reducible first | exact HB.out | apply below_alloc | apply pw_below_drewN | apply below_drew1) | exact HB.out)) hb); clear HO252; clear HB; have HO252 := n0_; have HB := n1_; clear n0_ n1_; (try clear hb); (try clear hb2); (try clear hk); (try clear hi))); go_upto_region 31 with (first | (go_at_call 45; (with_reducible refine (impl_LevelsOf.calls k4 t229 x20_4 t249 t250 _ A44.out).mono ?_); rintro e w47 ⟨v251, rfl, ho0, hb⟩; have n0_ := Aside0.mk (Kd.R_lower ho0 (below_size (by repeat (first | (with_reducible first | exact HB.out | apply below_alloc | apply pw_below_drewN | apply below_drew1) | exact HB.out)))); have n1_ := Aside0.mk (below_step (by repeat (first | (with_reducible first | exact HB.out | apply below_alloc | apply pw_below_drewN | apply below_drew1) | exact HB.out)) hb); clear HB; have HO252 := n0_; have HB := n1_; clear n0_ n1_; (try clear hb); (try clear hb2); (try clear hk); (try clear hi); (try clear ho0); obtain ⟨Ao48, co48, eo48⟩ := Kd.R_slice HO252.out; subst eo48) | (go_at_call 46; (with_reducible refine (impl_LongestFlat.calls k4 _ _ t249 t253 t254 _ ?side1 ?side2 A45.out).mono ?_); (case side1 => repeat (first | exact (Kd.R_reads' HO252.out).2.2 | (with_reducible refine Kd.C_alloc ?_ _) | (with_reducible refine Kd.C_drewN ?_ _) | (with_reducible refine Kd.C_drew ?_))); (case side2 => exact (Kd.R_reads' HO252.out).2.1); rintro e w49 ⟨rfl, hb⟩; have n0_ := Aside0.mk (Kd.R_below (by (with_reducible repeat (first | apply Kd.R_alloc | apply Kd.R_drewN | apply Kd.R_drew)); exact HO252.out) hb); have n1_ := Aside0.mk (below_step (by repeat (first | (with_reducible first | exact HB.out | apply below_alloc | apply pw_below_drewN | apply below_drew1) | exact HB.out)) hb); clear HO252; clear HB; have HO252 := n0_; have HB := n1_; clear n0_ n1_; (try clear hb); (try clear hb2); (try clear hk); (try clear hi))))
                                  (try simp only [Act.put, List.setIfInBounds_toArray, List.set_cons_zero, List.set_cons_succ])
                                  go_cut [150] (fun v150 wc => ∃ (kq : Nat) (x150_45 : Bool), v150 = .bool x150_45 ∧ Aside0 (laws_FnFlats.j4 kq t229 (wrap64 (1 + t243)) x18_3 x19_3 t253 x150_45 = some r) ∧ Aside0 (kq ≤ k4) ∧ Aside0 (Below w.heap.size w wc))
                                  case first =>
                                    have H := HC46.out
                                    clear HC46
                                    by_cases c50 : t250 = true
                                    · subst c50
                                      have H1 : (laws_FnFlats.j4 k4 t229 (wrap64 (1 + t243)) x18_3 x19_3 t253 (!t254)) = some r := by rw [if_pos rfl] at H; exact H
                                      clear H
                                      have H := H1
                                      clear H1
                                      have H' := Aside0.mk H
                                      clear H
                                      go_wp2
                                      repeat (go_quiet (fail); try go_wp2)
                                      go_meet
                                      case rel => exact ⟨_, (!t254), (by first | rfl | (simp; done) | (simp [*]; done)), H', ⟨by have := HJ11.out; have := HK2.out; have := HK3.out; have := HK4.out; first | omega | exact Nat.le_refl _⟩, ⟨by repeat (first | (with_reducible first | exact HB.out | apply below_alloc | apply pw_below_drewN | apply below_drew1) | exact HB.out)⟩⟩
                                    · replace c50 := Bool.eq_false_iff.mpr c50
                                      subst c50
                                      have H1 : (laws_FnFlats.j4 k4 t229 (wrap64 (1 + t243)) x18_3 x19_3 t253 true) = some r := by rw [if_neg (show ¬ (false = true) by decide)] at H; exact H
                                      clear H
                                      have H := H1
                                      clear H1
                                      have H' := Aside0.mk H
                                      clear H
                                      go_wp2
                                      repeat (go_quiet (fail); try go_wp2)
                                      go_meet
                                      case rel => exact ⟨_, (true), (by first | rfl | (simp; done) | (simp [*]; done)), H', ⟨by have := HJ11.out; have := HK2.out; have := HK3.out; have := HK4.out; first | omega | exact Nat.le_refl _⟩, ⟨by repeat (first | (with_reducible first | exact HB.out | apply below_alloc | apply pw_below_drewN | apply below_drew1) | exact HB.out)⟩⟩
                                  case rest =>
                                    clear HC46
                                    try clear c1
                                    try clear c2
                                    try clear p2
                                    try clear q2
                                    try clear hx2
                                    try clear c3
                                    try clear c4
                                    try clear hcv4
                                    try clear c5
                                    try clear p6
                                    try clear c7
                                    try clear c7b0
                                    try clear c7b1
                                    try clear c7b2
                                    try clear c14
                                    try clear c18
                                    try clear c19
                                    try clear c20
                                    try clear c21
                                    try clear c22
                                    try clear c22b0
                                    try clear c23
                                    try clear c24
                                    try clear c24b0
                                    try clear p24
                                    try clear q24
                                    try clear hx24
                                    try clear c25
                                    try clear c25b0
                                    try clear c27
                                    try clear c27b0
                                    try clear c28
                                    try clear c28b0
                                    try clear c29
                                    try clear c29b0
                                    try clear c29b1
                                    try clear c30
                                    try clear c30b0
                                    try clear c30b1
                                    try clear c33
                                    try clear c33b0
                                    try clear c33b1
                                    try clear c35
                                    try clear c35b0
                                    try clear c36
                                    try clear c36b0
                                    try clear c38
                                    try clear c38b0
                                    try clear c38b1
                                    try clear c40
                                    try clear c40b0
                                    try clear c40b1
                                    try clear c40b2
                                    try clear hcv43
                                    try clear c50
                                    try clear hx241_0
                                    try clear hx242_0
                                    try clear p2
                                    try clear p24
                                    try clear p241
                                    try clear p242
                                    try clear p6
                                    try clear q2
                                    try clear q24
                                    try clear q241
                                    try clear q242
                                    obtain ⟨kq, x150_45, rfl, HA, HJ45, HB⟩ := hcut
                                    cases kq with
                                    | zero => exact absurd HA.out (by simp [laws_FnFlats.j4])
                                    | succ kj45 =>
                                      have H := HA.out
                                      clear HA
                                      simp only [laws_FnFlats.j4] at H
                                      by_cases c51 : x150_45 = true
                                      · subst c51
                                        have H1 : (some false) = some r := by rw [if_pos rfl] at H; exact H
                                        clear H
                                        have H := H1
                                        clear H1
                                        obtain rfl := Option.some.inj H
                                        go_wp2
                                        repeat (go_quiet (fail); try go_wp2)
                                        go_ret
                                        exact ⟨by first | rfl | (simp [errW_none, errW_some] <;> rfl) | (simp only [← hji32, ← hji34]; first | rfl | (simp [errW_none, errW_some] <;> rfl)) | (simp [*, errW_none, errW_some] <;> rfl), by repeat (first | (with_reducible first | exact HB.out | apply below_alloc | apply pw_below_drewN | apply below_drew1) | exact HB.out)⟩
                                      · replace c51 := Bool.eq_false_iff.mpr c51
                                        subst c51
                                        have H1 : (if t253 > x18_3 then (laws_FnFlats.l1 kj45 t229 (wrap64 (1 + t243)) t253 (wrap64 (x19_3 + 1))) else (laws_FnFlats.l1 kj45 t229 (wrap64 (1 + t243)) x18_3 (wrap64 (x19_3 + 1)))) = some r := by rw [if_neg (show ¬ (false = true) by decide)] at H; exact H
                                        clear H
                                        have H := H1
                                        clear H1
                                        by_cases c52 : t253 > x18_3
                                        · rw [if_pos c52] at H
                                          have c52b0 : decide (x18_3 < t253) = true := decide_eq_true c52
                                          clear c52
                                          have H' := Aside0.mk H
                                          clear H
                                          go_wp2
                                          repeat (go_quiet (fail); try go_wp2)
                                          go_roundg kj45
                                          case measure => have := HJ11.out; have := HK2.out; have := HK3.out; have := HK4.out; have := HJ45.out; omega
                                          case rel => exact ⟨(t253), (wrap64 (x19_3 + 1)), (by first | rfl | (simp; done) | (simp [*]; done)), (by first | rfl | (simp; done) | (simp [*]; done)), H', ⟨by have := HJ11.out; have := HK2.out; have := HK3.out; have := HK4.out; have := HJ45.out; omega⟩, ⟨by repeat (first | (with_reducible first | exact HB.out | apply below_alloc | apply pw_below_drewN | apply below_drew1) | exact HB.out)⟩⟩
                                        · rw [if_neg c52] at H
                                          have c52b0 : decide (x18_3 < t253) = false := decide_eq_false c52
                                          clear c52
                                          have H' := Aside0.mk H
                                          clear H
                                          go_wp2
                                          repeat (go_quiet (fail); try go_wp2)
                                          go_roundg kj45
                                          case measure => have := HJ11.out; have := HK2.out; have := HK3.out; have := HK4.out; have := HJ45.out; omega
                                          case rel => exact ⟨(x18_3), (wrap64 (x19_3 + 1)), (by first | rfl | (simp; done) | (simp [*]; done)), (by first | rfl | (simp; done) | (simp [*]; done)), H', ⟨by have := HJ11.out; have := HK2.out; have := HK3.out; have := HK4.out; have := HJ45.out; omega⟩, ⟨by repeat (first | (with_reducible first | exact HB.out | apply below_alloc | apply pw_below_drewN | apply below_drew1) | exact HB.out)⟩⟩
                          · rw [if_neg c35] at H
                            have c35b0 : decide (x19_3 < (ji34)) = false := decide_eq_false c35
                            clear c35
                            replace H := Option.bind_eq_some_iff.mp H
                            obtain ⟨⟨t244, t245⟩, A530, H⟩ := H
                            replace H : (if t245 = true then (some (t244 == x18_3)) else (some false)) = some r := H
                            have A53 := Aside0.mk A530
                            clear A530
                            by_cases c54 : t245 = true
                            · subst c54
                              have H1 : (some (t244 == x18_3)) = some r := by rw [if_pos rfl] at H; exact H
                              clear H
                              have H := H1
                              clear H1
                              obtain rfl := Option.some.inj H
                              go_wp2_with (first | (go_at_call 47; (with_reducible refine (impl_WorstFlat.calls k3 t229 (wrap64 (1 + t243)) t244 true _ A53.out).mono ?_); rintro e w55 ⟨rfl, hb⟩; have n0_ := Aside0.mk (below_step (by repeat (first | (with_reducible first | exact HB.out | apply below_alloc | apply pw_below_drewN | apply below_drew1) | exact HB.out)) hb); clear HB; have HB := n0_; clear n0_; (try clear hb); (try clear hb2); (try clear hk); (try clear hi)))
                              repeat (go_quiet (first | (go_at_call 47; (with_reducible refine (impl_WorstFlat.calls k3 t229 (wrap64 (1 + t243)) t244 true _ A53.out).mono ?_); rintro e w55 ⟨rfl, hb⟩; have n0_ := Aside0.mk (below_step (by repeat (first | (with_reducible first | exact HB.out | apply below_alloc | apply pw_below_drewN | apply below_drew1) | exact HB.out)) hb); clear HB; have HB := n0_; clear n0_; (try clear hb); (try clear hb2); (try clear hk); (try clear hi))); try go_wp2_with (first | (go_at_call 47; (with_reducible refine (impl_WorstFlat.calls k3 t229 (wrap64 (1 + t243)) t244 true _ A53.out).mono ?_); rintro e w55 ⟨rfl, hb⟩; have n0_ := Aside0.mk (below_step (by repeat (first | (with_reducible first | exact HB.out | apply below_alloc | apply pw_below_drewN | apply below_drew1) | exact HB.out)) hb); clear HB; have HB := n0_; clear n0_; (try clear hb); (try clear hb2); (try clear hk); (try clear hi))))
                              go_ret
                              exact ⟨by first | rfl | (simp [errW_none, errW_some] <;> rfl) | (simp only [← hji32, ← hji34]; first | rfl | (simp [errW_none, errW_some] <;> rfl)) | (simp [*, errW_none, errW_some] <;> rfl), by repeat (first | (with_reducible first | exact HB.out | apply below_alloc | apply pw_below_drewN | apply below_drew1) | exact HB.out)⟩
                            · replace c54 := Bool.eq_false_iff.mpr c54
                              subst c54
                              have H1 : (some false) = some r := by rw [if_neg (show ¬ (false = true) by decide)] at H; exact H
                              clear H
                              have H := H1
                              clear H1
                              obtain rfl := Option.some.inj H
                              go_wp2_with (first | (go_at_call 47; (with_reducible refine (impl_WorstFlat.calls k3 t229 (wrap64 (1 + t243)) t244 false _ A53.out).mono ?_); rintro e w56 ⟨rfl, hb⟩; have n0_ := Aside0.mk (below_step (by repeat (first | (with_reducible first | exact HB.out | apply below_alloc | apply pw_below_drewN | apply below_drew1) | exact HB.out)) hb); clear HB; have HB := n0_; clear n0_; (try clear hb); (try clear hb2); (try clear hk); (try clear hi)))
                              repeat (go_quiet (first | (go_at_call 47; (with_reducible refine (impl_WorstFlat.calls k3 t229 (wrap64 (1 + t243)) t244 false _ A53.out).mono ?_); rintro e w56 ⟨rfl, hb⟩; have n0_ := Aside0.mk (below_step (by repeat (first | (with_reducible first | exact HB.out | apply below_alloc | apply pw_below_drewN | apply below_drew1) | exact HB.out)) hb); clear HB; have HB := n0_; clear n0_; (try clear hb); (try clear hb2); (try clear hk); (try clear hi))); try go_wp2_with (first | (go_at_call 47; (with_reducible refine (impl_WorstFlat.calls k3 t229 (wrap64 (1 + t243)) t244 false _ A53.out).mono ?_); rintro e w56 ⟨rfl, hb⟩; have n0_ := Aside0.mk (below_step (by repeat (first | (with_reducible first | exact HB.out | apply below_alloc | apply pw_below_drewN | apply below_drew1) | exact HB.out)) hb); clear HB; have HB := n0_; clear n0_; (try clear hb); (try clear hb2); (try clear hk); (try clear hi))))
                              go_ret
                              exact ⟨by first | rfl | (simp [errW_none, errW_some] <;> rfl) | (simp only [← hji32, ← hji34]; first | rfl | (simp [errW_none, errW_some] <;> rfl)) | (simp [*, errW_none, errW_some] <;> rfl), by repeat (first | (with_reducible first | exact HB.out | apply below_alloc | apply pw_below_drewN | apply below_drew1) | exact HB.out)⟩
                        · rw [if_neg c33] at H
                          exact absurd H (by simp)
                  · rw [if_neg c30] at H
                    have c30b0 : ((wrap64 (x15_2 + t239)) == (wrap64 ((t231.length : Int) - 1))) = false := beq_eq_false_iff_ne.mpr c30
                    have c30b1 : ((wrap64 (x15_2 + t239)) != (wrap64 ((t231.length : Int) - 1))) = true := bne_iff_ne.mpr c30
                    obtain rfl := Option.some.inj H
                    go_wp2
                    repeat (go_quiet (fail); try go_wp2)
                    go_ret
                    exact ⟨by first | rfl | (simp [errW_none, errW_some] <;> rfl) | (simp [*, errW_none, errW_some] <;> rfl), by repeat (first | (with_reducible first | exact HB.out | apply below_alloc | apply pw_below_drewN | apply below_drew1) | exact HB.out)⟩
    · rw [if_neg c7] at H
      exact absurd H (by simp)

/-- THE ONE PURE STATEMENT of laws_FnFlats: yours. -/
def laws_FnFlats.Pure : Prop := ∀ (l0 : List Int) (l1 : List Int), l0.length ≤ maxLen → l0.length * 1 ≤ 140737488351232 → (∀ x ∈ l0, (Lit.int .u8 x).wf = true) → l1.length ≤ maxLen → l1.length * 1 ≤ 140737488351232 → (∀ x ∈ l1, (Lit.int .u8 x).wf = true) → ∃ k, laws_FnFlats.f k l0 l1 = some true
theorem laws_FnFlats.walk (P : laws_FnFlats.Pure) (a0 : Option Addr) (len0 cap0 : Nat) (z0 : List Int) (a1 : Option Addr) (len1 cap1 : Nat) (z1 : List Int) (w : World) (w0 : (a0 = none ∧ len0 = 0 ∧ cap0 = 0 ∧ z0 = []) ∨ ∃ x, a0 = some x ∧ len0 ≤ cap0 ∧ cap0 ≤ maxLen ∧ z0.length = cap0 ∧ (∀ i, i < z0.length → w.cell? (x.add i) = some (.int .u8 (z0.getD i 0))) ∧ ∀ n ∈ z0, (Lit.int .u8 n).wf = true) (y0 : len0 * 1 ≤ 140737488351232) (w1 : (a1 = none ∧ len1 = 0 ∧ cap1 = 0 ∧ z1 = []) ∨ ∃ x, a1 = some x ∧ len1 ≤ cap1 ∧ cap1 ≤ maxLen ∧ z1.length = cap1 ∧ (∀ i, i < z1.length → w.cell? (x.add i) = some (.int .u8 (z1.getD i 0))) ∧ ∀ n ∈ z1, (Lit.int .u8 n).wf = true) (y1 : len1 * 1 ≤ 140737488351232) :
    Calls Tryd.prog 14 #[.slice a0 len0 cap0, .slice a1 len1 cap1] w fun e w' => e = .returned (.bool true) ∧ Below w.heap.size w w' := by
  obtain ⟨l0, rfl, hr0, hm0, hw0, hc0⟩ := ReadsInt.ofRowC w0
  obtain ⟨l1, rfl, hr1, hm1, hw1, hc1⟩ := ReadsInt.ofRowC w1
  obtain ⟨k, h⟩ := P l0 l1 hm0 y0 hw0 hm1 y1 hw1
  refine (laws_FnFlats.calls k _ _ l0 _ _ l1 true w (Kd.C_of_reads (d := (0 : Int)) (h1 := fun _ => rfl) hr0) hc0 (Kd.C_of_reads (d := (0 : Int)) (h1 := fun _ => rfl) hr1) hc1 h).mono ?_
  rintro e w' ⟨rfl, hd⟩
  exact ⟨rfl, hd⟩

end Go.Proofs.YtckjcighblnnfaaDoor.QFnFlats
