/- FnInterleaved: functions that it reaches, with what they compute and the proof that they do; written by a program of this session (wip/myprint.py). -/
import Derived.Test.YtckjcighblnnfaaDoorQFnInterleavedx0
import Derived.Test.YtckjcighblnnfaaDoorQFnInterleavedx1
import Derived.Test.YtckjcighblnnfaaDoorQFnInterleavedx2
namespace Go.Proofs.YtckjcighblnnfaaDoor.QFnInterleaved
open Go.RowKit Go.Proofs.YtckjcighblnnfaaDoorW.PrintWords Go.Proofs.YtckjcighblnnfaaDoorW.PrintLast Go.Proofs.YtckjcighblnnfaaDoorW.PrintMore
attribute [local go_sem] max2_int min2_int max_two min_two max_three min_three max_four min_four   -- for this text's walks alone
set_option linter.unusedVariables false
set_option linter.unusedSimpArgs false

/-! ### laws_FnInterleaved: function 4 -/
mutual
def laws_FnInterleaved.l0 : Nat → List Int → Int → Int → ByteArray → Int → Option (Bool)
  | 0, _, _, _, _, _ => none
  | k + 1, x1, x5, x6, x7, x8 => if x8 < (wrap64 (x5 * x6)) then ((laws_r8At.f x1 (Int.tmod x8 48) 2).bind fun t128 => ((some (([(wrap64 (48 + t128)) % 256] : List Int) : List Int)).bind fun y129 => (if x7.size + (strOfNums y129).size ≤ 9223372036854775807 then (laws_FnInterleaved.l0 k x1 x5 x6 (x7 ++ (strOfNums y129)) (wrap64 (x8 + 1))) else (none)))) else ((impl_BlockInterleave.f k x5 x6 x7).bind fun bt132 => ((impl_BlockDeinterleave.f k x5 x6 bt132.1).bind fun bt134 => (if bt132.2 = true then (if bt134.2 = true then (if bt134.1.toList = x7.toList then (laws_FnInterleaved.j1 k x1 x5 x6 x7 bt132.1 ((bt132.1.size : Int) != (x7.size : Int))) else (laws_FnInterleaved.j1 k x1 x5 x6 x7 bt132.1 true)) else (laws_FnInterleaved.j1 k x1 x5 x6 x7 bt132.1 true)) else (laws_FnInterleaved.j1 k x1 x5 x6 x7 bt132.1 true))))
def laws_FnInterleaved.j1 : Nat → List Int → Int → Int → ByteArray → ByteArray → Bool → Option (Bool)
  | 0, _, _, _, _, _, _ => none
  | k + 1, x1, x5, x6, x7, x9, x83 => if x83 = true then (some false) else (if 0 ≤ (wrap64 (x5 * x6)) then (if (wrap64 (x5 * x6) : Int).toNat ≤ 35184372088832 then (laws_FnInterleaved.l1 k x1 x5 x6 x7 x9 (List.replicate (wrap64 (x5 * x6) : Int).toNat 0) 0) else (none)) else (none))
def laws_FnInterleaved.l1 : Nat → List Int → Int → Int → ByteArray → ByteArray → List Int → Int → Option (Bool)
  | 0, _, _, _, _, _, _, _ => none
  | k + 1, x1, x5, x6, x7, x9, x13, x14 => if x14 < (wrap64 (x5 * x6)) then ((impl_PlaceBehind.f x5 x6 x14).bind fun bt139 => (if bt139.2 = true then (if bt139.1 < 0 then (some false) else (if bt139.1 ≥ (wrap64 (x5 * x6)) then (some false) else (if 0 ≤ bt139.1 then (if bt139.1 < (x9.size : Int) then (if 0 ≤ x14 then (if x14 < (x7.size : Int) then (if (bt x9 bt139.1) = (bt x7 x14) then (if bt139.1 < (x13.length : Int) then (laws_FnInterleaved.l1 k x1 x5 x6 x7 x9 (x13.set (bt139.1 : Int).toNat x14) (wrap64 (x14 + 1))) else (none)) else (some false)) else (none)) else (none)) else (none)) else (none)))) else (some false))) else ((laws_r8At.f x1 0 (wrap64 (x5 * x6))).bind fun t142 => ((laws_r8At.f x1 1 (wrap64 ((wrap64 ((wrap64 (x5 * x6)) - (wrap64 (1 + t142)))) + 1))).bind fun t143 => ((impl_MostInRow.f x5 x6 (wrap64 (1 + t142))).bind fun bt144 => ((impl_LeastApart.f k x5 x6 (wrap64 (1 + t142))).bind fun bt146 => (if bt144.2 = true then (laws_FnInterleaved.j3 k x5 x6 x13 (wrap64 (1 + t142)) t143 bt144.1 bt146.1 (bt146.2 != (decide ((wrap64 (1 + t142)) > 1)))) else (laws_FnInterleaved.j3 k x5 x6 x13 (wrap64 (1 + t142)) t143 bt144.1 bt146.1 true))))))
def laws_FnInterleaved.j3 : Nat → Int → Int → List Int → Int → Int → Int → Int → Bool → Option (Bool)
  | 0, _, _, _, _, _, _, _, _ => none
  | k + 1, x5, x6, x13, x17, x18, x19, x21, x163 => if x163 = true then (some false) else (if 0 ≤ x5 then (if (x5 : Int).toNat ≤ 35184372088832 then (laws_FnInterleaved.l2 k x6 x13 x17 x18 x19 x21 (List.replicate (x5 : Int).toNat 0) x18) else (none)) else (none))
def laws_FnInterleaved.l2 : Nat → Int → List Int → Int → Int → Int → Int → List Int → Int → Option (Bool)
  | 0, _, _, _, _, _, _, _, _ => none
  | k + 1, x6, x13, x17, x18, x19, x21, x23, x24 => if x24 < (wrap64 (x18 + x17)) then (if 0 ≤ x24 then (if x24 < (x13.length : Int) then (if x6 = 0 then (none) else (if 0 ≤ (wrap64 (Int.tdiv (rd x13 x24) x6)) then (if (wrap64 (Int.tdiv (rd x13 x24) x6)) < (x23.length : Int) then ((some (x23.set ((wrap64 (Int.tdiv (rd x13 x24) x6)) : Int).toNat (wrap64 ((rd x23 (wrap64 (Int.tdiv (rd x13 x24) x6))) + 1)) : List Int)).bind fun y153 => (if (rd y153 (wrap64 (Int.tdiv (rd x13 x24) x6))) > x19 then (some false) else (laws_FnInterleaved.l3 k x6 x13 x17 x18 x19 x21 y153 x24 x18))) else (none)) else (none))) else (none)) else (none)) else (some true)
def laws_FnInterleaved.l3 : Nat → Int → List Int → Int → Int → Int → Int → List Int → Int → Int → Option (Bool)
  | 0, _, _, _, _, _, _, _, _, _ => none
  | k + 1, x6, x13, x17, x18, x19, x21, x23, x24, x25 => if x25 < x24 then (if 0 ≤ x24 then (if x24 < (x13.length : Int) then (if 0 ≤ x25 then (if x25 < (x13.length : Int) then (if (wrap64 ((rd x13 x24) - (rd x13 x25))) < x21 then (if (wrap64 ((rd x13 x25) - (rd x13 x24))) < x21 then (some false) else (laws_FnInterleaved.l3 k x6 x13 x17 x18 x19 x21 x23 x24 (wrap64 (x25 + 1)))) else (laws_FnInterleaved.l3 k x6 x13 x17 x18 x19 x21 x23 x24 (wrap64 (x25 + 1)))) else (none)) else (none)) else (none)) else (none)) else (laws_FnInterleaved.l2 k x6 x13 x17 x18 x19 x21 x23 (wrap64 (x24 + 1)))
end
def laws_FnInterleaved.f (k : Nat) (l0 : List Int) (l1 : List Int) : Option (Bool) := (laws_r8Long.f l0 l1).bind fun t125 => (if t125 = true then (some true) else ((laws_r8At.f l0 0 8).bind fun t126 => ((laws_r8At.f l0 1 8).bind fun t127 => (laws_FnInterleaved.l0 k l1 (wrap64 (1 + t126)) (wrap64 (1 + t127)) (⟨#[]⟩ : ByteArray) 0))))
theorem laws_FnInterleaved.mono_l : ∀ k, (∀ y0 y1 y2 y3 y4, LeO (laws_FnInterleaved.l0 k y0 y1 y2 y3 y4) (laws_FnInterleaved.l0 (k + 1) y0 y1 y2 y3 y4)) ∧ (∀ y0 y1 y2 y3 y4 y5, LeO (laws_FnInterleaved.j1 k y0 y1 y2 y3 y4 y5) (laws_FnInterleaved.j1 (k + 1) y0 y1 y2 y3 y4 y5)) ∧ (∀ y0 y1 y2 y3 y4 y5 y6, LeO (laws_FnInterleaved.l1 k y0 y1 y2 y3 y4 y5 y6) (laws_FnInterleaved.l1 (k + 1) y0 y1 y2 y3 y4 y5 y6)) ∧ (∀ y0 y1 y2 y3 y4 y5 y6 y7, LeO (laws_FnInterleaved.j3 k y0 y1 y2 y3 y4 y5 y6 y7) (laws_FnInterleaved.j3 (k + 1) y0 y1 y2 y3 y4 y5 y6 y7)) ∧ (∀ y0 y1 y2 y3 y4 y5 y6 y7, LeO (laws_FnInterleaved.l2 k y0 y1 y2 y3 y4 y5 y6 y7) (laws_FnInterleaved.l2 (k + 1) y0 y1 y2 y3 y4 y5 y6 y7)) ∧ (∀ y0 y1 y2 y3 y4 y5 y6 y7 y8, LeO (laws_FnInterleaved.l3 k y0 y1 y2 y3 y4 y5 y6 y7 y8) (laws_FnInterleaved.l3 (k + 1) y0 y1 y2 y3 y4 y5 y6 y7 y8))
  | 0 => ⟨fun _ _ _ _ _ r h => by simp [laws_FnInterleaved.l0] at h, fun _ _ _ _ _ _ r h => by simp [laws_FnInterleaved.j1] at h, fun _ _ _ _ _ _ _ r h => by simp [laws_FnInterleaved.l1] at h, fun _ _ _ _ _ _ _ _ r h => by simp [laws_FnInterleaved.j3] at h, fun _ _ _ _ _ _ _ _ r h => by simp [laws_FnInterleaved.l2] at h, fun _ _ _ _ _ _ _ _ _ r h => by simp [laws_FnInterleaved.l3] at h⟩
  | k + 1 => by
    obtain ⟨ih0, ih1, ih2, ih3, ih4, ih5⟩ := laws_FnInterleaved.mono_l k
    refine ⟨?_, ?_, ?_, ?_, ?_, ?_⟩
    · intro y0 y1 y2 y3 y4
      unfold laws_FnInterleaved.l0
      repeat' first
      | (with_reducible exact ih0 _ _ _ _ _)
      | (with_reducible exact ih1 _ _ _ _ _ _)
      | (with_reducible exact ih2 _ _ _ _ _ _ _)
      | (with_reducible exact ih3 _ _ _ _ _ _ _ _)
      | (with_reducible exact ih4 _ _ _ _ _ _ _ _)
      | (with_reducible exact ih5 _ _ _ _ _ _ _ _ _)
      | (with_reducible exact impl_BlockDeinterleave.mono _ _ _ _)
      | (with_reducible exact impl_BlockInterleave.mono _ _ _ _)
      | (with_reducible exact impl_LeastApart.mono _ _ _ _)
      | (with_reducible exact LeO.refl _)
      | (with_reducible exact LeO.none _)
      | (with_reducible refine LeO.ite ?_ ?_)
      | (with_reducible refine LeO.bind ?_ (fun _ => ?_))
      | exact ih0 _ _ _ _ _
      | exact ih1 _ _ _ _ _ _
      | exact ih2 _ _ _ _ _ _ _
      | exact ih3 _ _ _ _ _ _ _ _
      | exact ih4 _ _ _ _ _ _ _ _
      | exact ih5 _ _ _ _ _ _ _ _ _
      | exact impl_BlockDeinterleave.mono _ _ _ _
      | exact impl_BlockInterleave.mono _ _ _ _
      | exact impl_LeastApart.mono _ _ _ _
      | exact LeO.none _
      | refine LeO.ite ?_ ?_
      | refine LeO.bind ?_ (fun _ => ?_)
    · intro y0 y1 y2 y3 y4 y5
      unfold laws_FnInterleaved.j1
      repeat' first
      | (with_reducible exact ih0 _ _ _ _ _)
      | (with_reducible exact ih1 _ _ _ _ _ _)
      | (with_reducible exact ih2 _ _ _ _ _ _ _)
      | (with_reducible exact ih3 _ _ _ _ _ _ _ _)
      | (with_reducible exact ih4 _ _ _ _ _ _ _ _)
      | (with_reducible exact ih5 _ _ _ _ _ _ _ _ _)
      | (with_reducible exact impl_BlockDeinterleave.mono _ _ _ _)
      | (with_reducible exact impl_BlockInterleave.mono _ _ _ _)
      | (with_reducible exact impl_LeastApart.mono _ _ _ _)
      | (with_reducible exact LeO.refl _)
      | (with_reducible exact LeO.none _)
      | (with_reducible refine LeO.ite ?_ ?_)
      | (with_reducible refine LeO.bind ?_ (fun _ => ?_))
      | exact ih0 _ _ _ _ _
      | exact ih1 _ _ _ _ _ _
      | exact ih2 _ _ _ _ _ _ _
      | exact ih3 _ _ _ _ _ _ _ _
      | exact ih4 _ _ _ _ _ _ _ _
      | exact ih5 _ _ _ _ _ _ _ _ _
      | exact impl_BlockDeinterleave.mono _ _ _ _
      | exact impl_BlockInterleave.mono _ _ _ _
      | exact impl_LeastApart.mono _ _ _ _
      | exact LeO.none _
      | refine LeO.ite ?_ ?_
      | refine LeO.bind ?_ (fun _ => ?_)
    · intro y0 y1 y2 y3 y4 y5 y6
      unfold laws_FnInterleaved.l1
      repeat' first
      | (with_reducible exact ih0 _ _ _ _ _)
      | (with_reducible exact ih1 _ _ _ _ _ _)
      | (with_reducible exact ih2 _ _ _ _ _ _ _)
      | (with_reducible exact ih3 _ _ _ _ _ _ _ _)
      | (with_reducible exact ih4 _ _ _ _ _ _ _ _)
      | (with_reducible exact ih5 _ _ _ _ _ _ _ _ _)
      | (with_reducible exact impl_BlockDeinterleave.mono _ _ _ _)
      | (with_reducible exact impl_BlockInterleave.mono _ _ _ _)
      | (with_reducible exact impl_LeastApart.mono _ _ _ _)
      | (with_reducible exact LeO.refl _)
      | (with_reducible exact LeO.none _)
      | (with_reducible refine LeO.ite ?_ ?_)
      | (with_reducible refine LeO.bind ?_ (fun _ => ?_))
      | exact ih0 _ _ _ _ _
      | exact ih1 _ _ _ _ _ _
      | exact ih2 _ _ _ _ _ _ _
      | exact ih3 _ _ _ _ _ _ _ _
      | exact ih4 _ _ _ _ _ _ _ _
      | exact ih5 _ _ _ _ _ _ _ _ _
      | exact impl_BlockDeinterleave.mono _ _ _ _
      | exact impl_BlockInterleave.mono _ _ _ _
      | exact impl_LeastApart.mono _ _ _ _
      | exact LeO.none _
      | refine LeO.ite ?_ ?_
      | refine LeO.bind ?_ (fun _ => ?_)
    · intro y0 y1 y2 y3 y4 y5 y6 y7
      unfold laws_FnInterleaved.j3
      repeat' first
      | (with_reducible exact ih0 _ _ _ _ _)
      | (with_reducible exact ih1 _ _ _ _ _ _)
      | (with_reducible exact ih2 _ _ _ _ _ _ _)
      | (with_reducible exact ih3 _ _ _ _ _ _ _ _)
      | (with_reducible exact ih4 _ _ _ _ _ _ _ _)
      | (with_reducible exact ih5 _ _ _ _ _ _ _ _ _)
      | (with_reducible exact impl_BlockDeinterleave.mono _ _ _ _)
      | (with_reducible exact impl_BlockInterleave.mono _ _ _ _)
      | (with_reducible exact impl_LeastApart.mono _ _ _ _)
      | (with_reducible exact LeO.refl _)
      | (with_reducible exact LeO.none _)
      | (with_reducible refine LeO.ite ?_ ?_)
      | (with_reducible refine LeO.bind ?_ (fun _ => ?_))
      | exact ih0 _ _ _ _ _
      | exact ih1 _ _ _ _ _ _
      | exact ih2 _ _ _ _ _ _ _
      | exact ih3 _ _ _ _ _ _ _ _
      | exact ih4 _ _ _ _ _ _ _ _
      | exact ih5 _ _ _ _ _ _ _ _ _
      | exact impl_BlockDeinterleave.mono _ _ _ _
      | exact impl_BlockInterleave.mono _ _ _ _
      | exact impl_LeastApart.mono _ _ _ _
      | exact LeO.none _
      | refine LeO.ite ?_ ?_
      | refine LeO.bind ?_ (fun _ => ?_)
    · intro y0 y1 y2 y3 y4 y5 y6 y7
      unfold laws_FnInterleaved.l2
      repeat' first
      | (with_reducible exact ih0 _ _ _ _ _)
      | (with_reducible exact ih1 _ _ _ _ _ _)
      | (with_reducible exact ih2 _ _ _ _ _ _ _)
      | (with_reducible exact ih3 _ _ _ _ _ _ _ _)
      | (with_reducible exact ih4 _ _ _ _ _ _ _ _)
      | (with_reducible exact ih5 _ _ _ _ _ _ _ _ _)
      | (with_reducible exact impl_BlockDeinterleave.mono _ _ _ _)
      | (with_reducible exact impl_BlockInterleave.mono _ _ _ _)
      | (with_reducible exact impl_LeastApart.mono _ _ _ _)
      | (with_reducible exact LeO.refl _)
      | (with_reducible exact LeO.none _)
      | (with_reducible refine LeO.ite ?_ ?_)
      | (with_reducible refine LeO.bind ?_ (fun _ => ?_))
      | exact ih0 _ _ _ _ _
      | exact ih1 _ _ _ _ _ _
      | exact ih2 _ _ _ _ _ _ _
      | exact ih3 _ _ _ _ _ _ _ _
      | exact ih4 _ _ _ _ _ _ _ _
      | exact ih5 _ _ _ _ _ _ _ _ _
      | exact impl_BlockDeinterleave.mono _ _ _ _
      | exact impl_BlockInterleave.mono _ _ _ _
      | exact impl_LeastApart.mono _ _ _ _
      | exact LeO.none _
      | refine LeO.ite ?_ ?_
      | refine LeO.bind ?_ (fun _ => ?_)
    · intro y0 y1 y2 y3 y4 y5 y6 y7 y8
      unfold laws_FnInterleaved.l3
      repeat' first
      | (with_reducible exact ih0 _ _ _ _ _)
      | (with_reducible exact ih1 _ _ _ _ _ _)
      | (with_reducible exact ih2 _ _ _ _ _ _ _)
      | (with_reducible exact ih3 _ _ _ _ _ _ _ _)
      | (with_reducible exact ih4 _ _ _ _ _ _ _ _)
      | (with_reducible exact ih5 _ _ _ _ _ _ _ _ _)
      | (with_reducible exact impl_BlockDeinterleave.mono _ _ _ _)
      | (with_reducible exact impl_BlockInterleave.mono _ _ _ _)
      | (with_reducible exact impl_LeastApart.mono _ _ _ _)
      | (with_reducible exact LeO.refl _)
      | (with_reducible exact LeO.none _)
      | (with_reducible refine LeO.ite ?_ ?_)
      | (with_reducible refine LeO.bind ?_ (fun _ => ?_))
      | exact ih0 _ _ _ _ _
      | exact ih1 _ _ _ _ _ _
      | exact ih2 _ _ _ _ _ _ _
      | exact ih3 _ _ _ _ _ _ _ _
      | exact ih4 _ _ _ _ _ _ _ _
      | exact ih5 _ _ _ _ _ _ _ _ _
      | exact impl_BlockDeinterleave.mono _ _ _ _
      | exact impl_BlockInterleave.mono _ _ _ _
      | exact impl_LeastApart.mono _ _ _ _
      | exact LeO.none _
      | refine LeO.ite ?_ ?_
      | refine LeO.bind ?_ (fun _ => ?_)
theorem laws_FnInterleaved.mono : ∀ a0 a1 k, LeO (laws_FnInterleaved.f k a0 a1) (laws_FnInterleaved.f (k + 1) a0 a1) := by
  intro a0 a1 k
  obtain ⟨ih0, ih1, ih2, ih3, ih4, ih5⟩ := laws_FnInterleaved.mono_l k
  unfold laws_FnInterleaved.f
  repeat' first
      | (with_reducible exact ih0 _ _ _ _ _)
      | (with_reducible exact ih1 _ _ _ _ _ _)
      | (with_reducible exact ih2 _ _ _ _ _ _ _)
      | (with_reducible exact ih3 _ _ _ _ _ _ _ _)
      | (with_reducible exact ih4 _ _ _ _ _ _ _ _)
      | (with_reducible exact ih5 _ _ _ _ _ _ _ _ _)
      | (with_reducible exact impl_BlockDeinterleave.mono _ _ _ _)
      | (with_reducible exact impl_BlockInterleave.mono _ _ _ _)
      | (with_reducible exact impl_LeastApart.mono _ _ _ _)
      | (with_reducible exact LeO.refl _)
      | (with_reducible exact LeO.none _)
      | (with_reducible refine LeO.ite ?_ ?_)
      | (with_reducible refine LeO.bind ?_ (fun _ => ?_))
      | exact ih0 _ _ _ _ _
      | exact ih1 _ _ _ _ _ _
      | exact ih2 _ _ _ _ _ _ _
      | exact ih3 _ _ _ _ _ _ _ _
      | exact ih4 _ _ _ _ _ _ _ _
      | exact ih5 _ _ _ _ _ _ _ _ _
      | exact impl_BlockDeinterleave.mono _ _ _ _
      | exact impl_BlockInterleave.mono _ _ _ _
      | exact impl_LeastApart.mono _ _ _ _
      | exact LeO.none _
      | refine LeO.ite ?_ ?_
      | refine LeO.bind ?_ (fun _ => ?_)
set_option maxHeartbeats 8000000 in
set_option maxRecDepth 100000 in
theorem laws_FnInterleaved.calls (k : Nat) (A0 : Option Addr) (c0 : Nat) (l0 : List Int) (A1 : Option Addr) (c1 : Nat) (l1 : List Int) (r : Bool) (w : World) (hr0 : Kd.C (Kd.int .u8) w A0 l0.length l0) (hc0 : l0.length ≤ c0) (hr1 : Kd.C (Kd.int .u8) w A1 l1.length l1) (hc1 : l1.length ≤ c1) (h : laws_FnInterleaved.f k l0 l1 = some r) :
    Calls Tryd.prog 4 #[.slice A0 l0.length c0, .slice A1 l1.length c1] w fun e w' => e = .returned (.bool r) ∧ Below w.heap.size w w' := by
  have HR0 := Aside0.mk hr0
  have HC0 := Aside0.mk hc0
  clear hr0 hc0
  have HR1 := Aside0.mk hr1
  have HC1 := Aside0.mk hc1
  clear hr1 hc1
  have HB := Aside0.mk (Below.refl w.heap.size w)
  have H : ((laws_r8Long.f l0 l1).bind fun t125 => (if t125 = true then (some true) else ((laws_r8At.f l0 0 8).bind fun t126 => ((laws_r8At.f l0 1 8).bind fun t127 => (laws_FnInterleaved.l0 k l1 (wrap64 (1 + t126)) (wrap64 (1 + t127)) (⟨#[]⟩ : ByteArray) 0))))) = some r := h
  clear h
  replace H := Option.bind_eq_some_iff.mp H
  obtain ⟨t125, A30, H⟩ := H
  replace H : (if t125 = true then (some true) else ((laws_r8At.f l0 0 8).bind fun t126 => ((laws_r8At.f l0 1 8).bind fun t127 => (laws_FnInterleaved.l0 k l1 (wrap64 (1 + t126)) (wrap64 (1 + t127)) (⟨#[]⟩ : ByteArray) 0)))) = some r := H
  have A3 := Aside0.mk A30
  clear A30
  by_cases c4 : t125 = true
  · subst c4
    have H1 : (some true) = some r := by rw [if_pos rfl] at H; exact H
    clear H
    have H := H1
    clear H1
    obtain rfl := Option.some.inj H
    go_enter Tryd.func4, Tryd.ntmps4
    go_wp2_with (first | (go_at_call 17; (with_reducible refine (laws_r8Long.calls _ _ l0 _ _ l1 true _ ?side1 ?side2 ?side3 ?side4 A3.out).mono ?_); (case side1 => repeat (first | exact HR0.out | (with_reducible refine Kd.C_alloc ?_ _) | (with_reducible refine Kd.C_drewN ?_ _) | (with_reducible refine Kd.C_drew ?_))); (case side2 => exact HC0.out); (case side3 => repeat (first | exact HR1.out | (with_reducible refine Kd.C_alloc ?_ _) | (with_reducible refine Kd.C_drewN ?_ _) | (with_reducible refine Kd.C_drew ?_))); (case side4 => exact HC1.out); rintro e w' ⟨rfl, ⟨nd, rfl⟩⟩; (try first | exact ⟨rfl, _, World.drewN_drewN _ _ _⟩ | exact ⟨rfl, _, Eq.trans (World.drewN_drewN _ _ _) (congrArg (World.drewN _) (Nat.add_assoc _ _ _))⟩)))
    repeat (go_quiet (first | (go_at_call 17; (with_reducible refine (laws_r8Long.calls _ _ l0 _ _ l1 true _ ?side1 ?side2 ?side3 ?side4 A3.out).mono ?_); (case side1 => repeat (first | exact HR0.out | (with_reducible refine Kd.C_alloc ?_ _) | (with_reducible refine Kd.C_drewN ?_ _) | (with_reducible refine Kd.C_drew ?_))); (case side2 => exact HC0.out); (case side3 => repeat (first | exact HR1.out | (with_reducible refine Kd.C_alloc ?_ _) | (with_reducible refine Kd.C_drewN ?_ _) | (with_reducible refine Kd.C_drew ?_))); (case side4 => exact HC1.out); rintro e w' ⟨rfl, ⟨nd, rfl⟩⟩; (try first | exact ⟨rfl, _, World.drewN_drewN _ _ _⟩ | exact ⟨rfl, _, Eq.trans (World.drewN_drewN _ _ _) (congrArg (World.drewN _) (Nat.add_assoc _ _ _))⟩))); try go_wp2_with (first | (go_at_call 17; (with_reducible refine (laws_r8Long.calls _ _ l0 _ _ l1 true _ ?side1 ?side2 ?side3 ?side4 A3.out).mono ?_); (case side1 => repeat (first | exact HR0.out | (with_reducible refine Kd.C_alloc ?_ _) | (with_reducible refine Kd.C_drewN ?_ _) | (with_reducible refine Kd.C_drew ?_))); (case side2 => exact HC0.out); (case side3 => repeat (first | exact HR1.out | (with_reducible refine Kd.C_alloc ?_ _) | (with_reducible refine Kd.C_drewN ?_ _) | (with_reducible refine Kd.C_drew ?_))); (case side4 => exact HC1.out); rintro e w' ⟨rfl, ⟨nd, rfl⟩⟩; (try first | exact ⟨rfl, _, World.drewN_drewN _ _ _⟩ | exact ⟨rfl, _, Eq.trans (World.drewN_drewN _ _ _) (congrArg (World.drewN _) (Nat.add_assoc _ _ _))⟩))))
    go_ret
    exact ⟨by first | rfl | (simp [errW_none, errW_some] <;> rfl) | (simp [*, errW_none, errW_some] <;> rfl), by repeat (first | (with_reducible first | exact HB.out | apply below_alloc | apply pw_below_drewN | apply below_drew1) | exact HB.out)⟩
  · replace c4 := Bool.eq_false_iff.mpr c4
    subst c4
    have H1 : ((laws_r8At.f l0 0 8).bind fun t126 => ((laws_r8At.f l0 1 8).bind fun t127 => (laws_FnInterleaved.l0 k l1 (wrap64 (1 + t126)) (wrap64 (1 + t127)) (⟨#[]⟩ : ByteArray) 0))) = some r := by rw [if_neg (show ¬ (false = true) by decide)] at H; exact H
    clear H
    have H := H1
    clear H1
    replace H := Option.bind_eq_some_iff.mp H
    obtain ⟨t126, A50, H⟩ := H
    replace H : ((laws_r8At.f l0 1 8).bind fun t127 => (laws_FnInterleaved.l0 k l1 (wrap64 (1 + t126)) (wrap64 (1 + t127)) (⟨#[]⟩ : ByteArray) 0)) = some r := H
    have A5 := Aside0.mk A50
    clear A50
    replace H := Option.bind_eq_some_iff.mp H
    obtain ⟨t127, A60, H⟩ := H
    replace H : (laws_FnInterleaved.l0 k l1 (wrap64 (1 + t126)) (wrap64 (1 + t127)) (⟨#[]⟩ : ByteArray) 0) = some r := H
    have A6 := Aside0.mk A60
    clear A60
    have H' := Aside0.mk H
    clear H
    go_enter Tryd.func4, Tryd.ntmps4
    go_wp2_with (first | (go_at_call 17; (with_reducible refine (laws_r8Long.calls _ _ l0 _ _ l1 false _ ?side1 ?side2 ?side3 ?side4 A3.out).mono ?_); (case side1 => repeat (first | exact HR0.out | (with_reducible refine Kd.C_alloc ?_ _) | (with_reducible refine Kd.C_drewN ?_ _) | (with_reducible refine Kd.C_drew ?_))); (case side2 => exact HC0.out); (case side3 => repeat (first | exact HR1.out | (with_reducible refine Kd.C_alloc ?_ _) | (with_reducible refine Kd.C_drewN ?_ _) | (with_reducible refine Kd.C_drew ?_))); (case side4 => exact HC1.out); rintro e w' ⟨rfl, ⟨nd, rfl⟩⟩; (try first | exact ⟨rfl, _, World.drewN_drewN _ _ _⟩ | exact ⟨rfl, _, Eq.trans (World.drewN_drewN _ _ _) (congrArg (World.drewN _) (Nat.add_assoc _ _ _))⟩)) | (go_at_call 18; (with_reducible refine (laws_r8At.calls _ _ l0 0 8 t126 _ ?side1 ?side2 A5.out).mono ?_); (case side1 => repeat (first | exact HR0.out | (with_reducible refine Kd.C_alloc ?_ _) | (with_reducible refine Kd.C_drewN ?_ _) | (with_reducible refine Kd.C_drew ?_))); (case side2 => exact HC0.out); rintro e w' ⟨rfl, ⟨nd, rfl⟩⟩; (try first | exact ⟨rfl, _, World.drewN_drewN _ _ _⟩ | exact ⟨rfl, _, Eq.trans (World.drewN_drewN _ _ _) (congrArg (World.drewN _) (Nat.add_assoc _ _ _))⟩)) | (go_at_call 18; (with_reducible refine (laws_r8At.calls _ _ l0 1 8 t127 _ ?side1 ?side2 A6.out).mono ?_); (case side1 => repeat (first | exact HR0.out | (with_reducible refine Kd.C_alloc ?_ _) | (with_reducible refine Kd.C_drewN ?_ _) | (with_reducible refine Kd.C_drew ?_))); (case side2 => exact HC0.out); rintro e w' ⟨rfl, ⟨nd, rfl⟩⟩; (try first | exact ⟨rfl, _, World.drewN_drewN _ _ _⟩ | exact ⟨rfl, _, Eq.trans (World.drewN_drewN _ _ _) (congrArg (World.drewN _) (Nat.add_assoc _ _ _))⟩)))
    repeat (go_quiet (first | (go_at_call 17; (with_reducible refine (laws_r8Long.calls _ _ l0 _ _ l1 false _ ?side1 ?side2 ?side3 ?side4 A3.out).mono ?_); (case side1 => repeat (first | exact HR0.out | (with_reducible refine Kd.C_alloc ?_ _) | (with_reducible refine Kd.C_drewN ?_ _) | (with_reducible refine Kd.C_drew ?_))); (case side2 => exact HC0.out); (case side3 => repeat (first | exact HR1.out | (with_reducible refine Kd.C_alloc ?_ _) | (with_reducible refine Kd.C_drewN ?_ _) | (with_reducible refine Kd.C_drew ?_))); (case side4 => exact HC1.out); rintro e w' ⟨rfl, ⟨nd, rfl⟩⟩; (try first | exact ⟨rfl, _, World.drewN_drewN _ _ _⟩ | exact ⟨rfl, _, Eq.trans (World.drewN_drewN _ _ _) (congrArg (World.drewN _) (Nat.add_assoc _ _ _))⟩)) | (go_at_call 18; (with_reducible refine (laws_r8At.calls _ _ l0 0 8 t126 _ ?side1 ?side2 A5.out).mono ?_); (case side1 => repeat (first | exact HR0.out | (with_reducible refine Kd.C_alloc ?_ _) | (with_reducible refine Kd.C_drewN ?_ _) | (with_reducible refine Kd.C_drew ?_))); (case side2 => exact HC0.out); rintro e w' ⟨rfl, ⟨nd, rfl⟩⟩; (try first | exact ⟨rfl, _, World.drewN_drewN _ _ _⟩ | exact ⟨rfl, _, Eq.trans (World.drewN_drewN _ _ _) (congrArg (World.drewN _) (Nat.add_assoc _ _ _))⟩)) | (go_at_call 18; (with_reducible refine (laws_r8At.calls _ _ l0 1 8 t127 _ ?side1 ?side2 A6.out).mono ?_); (case side1 => repeat (first | exact HR0.out | (with_reducible refine Kd.C_alloc ?_ _) | (with_reducible refine Kd.C_drewN ?_ _) | (with_reducible refine Kd.C_drew ?_))); (case side2 => exact HC0.out); rintro e w' ⟨rfl, ⟨nd, rfl⟩⟩; (try first | exact ⟨rfl, _, World.drewN_drewN _ _ _⟩ | exact ⟨rfl, _, Eq.trans (World.drewN_drewN _ _ _) (congrArg (World.drewN _) (Nat.add_assoc _ _ _))⟩))); try go_wp2_with (first | (go_at_call 17; (with_reducible refine (laws_r8Long.calls _ _ l0 _ _ l1 false _ ?side1 ?side2 ?side3 ?side4 A3.out).mono ?_); (case side1 => repeat (first | exact HR0.out | (with_reducible refine Kd.C_alloc ?_ _) | (with_reducible refine Kd.C_drewN ?_ _) | (with_reducible refine Kd.C_drew ?_))); (case side2 => exact HC0.out); (case side3 => repeat (first | exact HR1.out | (with_reducible refine Kd.C_alloc ?_ _) | (with_reducible refine Kd.C_drewN ?_ _) | (with_reducible refine Kd.C_drew ?_))); (case side4 => exact HC1.out); rintro e w' ⟨rfl, ⟨nd, rfl⟩⟩; (try first | exact ⟨rfl, _, World.drewN_drewN _ _ _⟩ | exact ⟨rfl, _, Eq.trans (World.drewN_drewN _ _ _) (congrArg (World.drewN _) (Nat.add_assoc _ _ _))⟩)) | (go_at_call 18; (with_reducible refine (laws_r8At.calls _ _ l0 0 8 t126 _ ?side1 ?side2 A5.out).mono ?_); (case side1 => repeat (first | exact HR0.out | (with_reducible refine Kd.C_alloc ?_ _) | (with_reducible refine Kd.C_drewN ?_ _) | (with_reducible refine Kd.C_drew ?_))); (case side2 => exact HC0.out); rintro e w' ⟨rfl, ⟨nd, rfl⟩⟩; (try first | exact ⟨rfl, _, World.drewN_drewN _ _ _⟩ | exact ⟨rfl, _, Eq.trans (World.drewN_drewN _ _ _) (congrArg (World.drewN _) (Nat.add_assoc _ _ _))⟩)) | (go_at_call 18; (with_reducible refine (laws_r8At.calls _ _ l0 1 8 t127 _ ?side1 ?side2 A6.out).mono ?_); (case side1 => repeat (first | exact HR0.out | (with_reducible refine Kd.C_alloc ?_ _) | (with_reducible refine Kd.C_drewN ?_ _) | (with_reducible refine Kd.C_drew ?_))); (case side2 => exact HC0.out); rintro e w' ⟨rfl, ⟨nd, rfl⟩⟩; (try first | exact ⟨rfl, _, World.drewN_drewN _ _ _⟩ | exact ⟨rfl, _, Eq.trans (World.drewN_drewN _ _ _) (congrArg (World.drewN _) (Nat.add_assoc _ _ _))⟩))))
    go_loopg [7, 8] k (fun kq v7 v8 w' => ∃ (x7_1 : ByteArray) (x8_1 : Int), v7 = .string x7_1 ∧ v8 = .int .i64 x8_1 ∧ Aside0 (laws_FnInterleaved.l0 kq l1 (wrap64 (1 + t126)) (wrap64 (1 + t127)) x7_1 x8_1 = some r) ∧ Aside0 (kq ≤ k) ∧ Aside0 (Below w.heap.size w w'))
    case atStart => exact ⟨((⟨#[]⟩ : ByteArray)), (0), (by first | rfl | (simp; done) | (simp [*]; done)), (by first | rfl | (simp; done) | (simp [*]; done)), H', ⟨Nat.le_refl _⟩, ⟨by repeat (first | (with_reducible first | exact HB.out | apply below_alloc | apply pw_below_drewN | apply below_drew1) | exact HB.out)⟩⟩
    case round =>
      clear H'
      try clear c1
      try clear p2
      try clear c4
      try clear p6
      obtain ⟨x7_1, x8_1, rfl, rfl, HA, HK1, HB⟩ := hrel
      cases gk with
      | zero => exact absurd HA.out (by simp [laws_FnInterleaved.l0])
      | succ k1 =>
        have H := HA.out
        clear HA
        simp only [laws_FnInterleaved.l0] at H
        by_cases c7 : x8_1 < (wrap64 ((wrap64 (1 + t126)) * (wrap64 (1 + t127))))
        · rw [if_pos c7] at H
          have c7b0 : decide (x8_1 < (wrap64 ((wrap64 (1 + t126)) * (wrap64 (1 + t127))))) = true := decide_eq_true c7
          clear c7
          replace H := Option.bind_eq_some_iff.mp H
          obtain ⟨t128, A80, H⟩ := H
          replace H : ((some (([(wrap64 (48 + t128)) % 256] : List Int) : List Int)).bind fun y129 => (if x7_1.size + (strOfNums y129).size ≤ 9223372036854775807 then (laws_FnInterleaved.l0 k1 l1 (wrap64 (1 + t126)) (wrap64 (1 + t127)) (x7_1 ++ (strOfNums y129)) (wrap64 (x8_1 + 1))) else (none))) = some r := H
          have A8 := Aside0.mk A80
          clear A80
          obtain ⟨y129, hy129⟩ : ∃ y_ : List Int, y_ = (([(wrap64 (48 + t128)) % 256] : List Int)) := ⟨_, rfl⟩
          replace H : (if x7_1.size + (strOfNums y129).size ≤ 9223372036854775807 then (laws_FnInterleaved.l0 k1 l1 (wrap64 (1 + t126)) (wrap64 (1 + t127)) (x7_1 ++ (strOfNums y129)) (wrap64 (x8_1 + 1))) else (none)) = some r := by first | (rw [hy129]; with_reducible exact H) | (have H2_ := (Option.bind_some _ _).symm.trans H; rw [hy129]; with_reducible exact H2_) | (have H2_ := (Option.bind_some _ _).symm.trans H; with_reducible exact H2_) | with_reducible exact H | (rw [hy129]; exact H) | exact H
          have Ny129 := Aside0.mk hy129
          clear hy129
          by_cases c9 : x7_1.size + (strOfNums y129).size ≤ 9223372036854775807
          · rw [if_pos c9] at H
            have c9b0 := eq_true c9
            have c9b1 : decide (x7_1.size + (strOfNums y129).size ≤ 9223372036854775807) = true := decide_eq_true c9
            try have c9b2 : (9223372036854775807 < x7_1.size + (strOfNums y129).size) = False := eq_false (Nat.not_lt.2 c9)
            have H' := Aside0.mk H
            clear H
            go_wp2_with (first | (go_at_call 18; (with_reducible refine (laws_r8At.calls _ _ l1 (Int.tmod x8_1 48) 2 t128 _ ?side1 ?side2 A8.out).mono ?_); (case side1 => repeat (first | exact (Kd.C_below HR1.out HB.out) | (with_reducible refine Kd.C_alloc ?_ _) | (with_reducible refine Kd.C_drewN ?_ _) | (with_reducible refine Kd.C_drew ?_))); (case side2 => exact HC1.out); rintro e w' ⟨rfl, ⟨nd, rfl⟩⟩; (try first | exact ⟨rfl, _, World.drewN_drewN _ _ _⟩ | exact ⟨rfl, _, Eq.trans (World.drewN_drewN _ _ _) (congrArg (World.drewN _) (Nat.add_assoc _ _ _))⟩)) | ((with_reducible refine gate_dst (N := 49) rfl ?_); (try (refine gate_guard (by rfl) ?_; dsimp only)); refine Kd.R_lit (Kd.int .u8) _ 5 ?hg (N := 49) ?hd (xs := ([(wrap64 (48 + t128)) % 256] : List Int)) (inner := [.int .u8 ((wrap64 (48 + t128)) % 256)]) (ok := fun _ => True) (okp := fun _ => True) ?hr ?hp (fun _ hk => hk) trivial (Below.refl _ _) (Nat.le_refl _) (by simp) ?_; (case hd => rfl); (case hg => rfl); (case hr => first | (go_simp; done) | (go_simp; rfl)); (case hp => exact (Reps.one (show Kd.M (Kd.int .u8) _ _ _ ((wrap64 (48 + t128)) % 256) [.int .u8 ((wrap64 (48 + t128)) % 256)] from rfl) (Reps.none _ _))); intro v130 w10 ho11 hb hg_ hnew_; clear hg_ hnew_; (first | rw [← Ny129.out] at ho11 | (simp only [Int.reduceToNat] at ho11; rw [← Ny129.out] at ho11)); have n0_ := Aside0.mk (Kd.R_lower ho11 (below_size (by repeat (first | (with_reducible first | exact HB.out | apply below_alloc | apply pw_below_drewN | apply below_drew1) | exact HB.out)))); have n1_ := Aside0.mk (below_step (by repeat (first | (with_reducible first | exact HB.out | apply below_alloc | apply pw_below_drewN | apply below_drew1) | exact HB.out)) hb); clear HB; have HO131 := n0_; have HB := n1_; clear n0_ n1_; clear hb ho11; have hcv12 := own_string (P := Tryd.prog) Tryd.underlying25 Tryd.underlying5 Tryd.underlying9 (Kd.own_of_R HO131.out)))
            repeat (go_quiet (first | (go_at_call 18; (with_reducible refine (laws_r8At.calls _ _ l1 (Int.tmod x8_1 48) 2 t128 _ ?side1 ?side2 A8.out).mono ?_); (case side1 => repeat (first | exact (Kd.C_below HR1.out HB.out) | (with_reducible refine Kd.C_alloc ?_ _) | (with_reducible refine Kd.C_drewN ?_ _) | (with_reducible refine Kd.C_drew ?_))); (case side2 => exact HC1.out); rintro e w' ⟨rfl, ⟨nd, rfl⟩⟩; (try first | exact ⟨rfl, _, World.drewN_drewN _ _ _⟩ | exact ⟨rfl, _, Eq.trans (World.drewN_drewN _ _ _) (congrArg (World.drewN _) (Nat.add_assoc _ _ _))⟩)) | ((with_reducible refine gate_dst (N := 49) rfl ?_); (try (refine gate_guard (by rfl) ?_; dsimp only)); refine Kd.R_lit (Kd.int .u8) _ 5 ?hg (N := 49) ?hd (xs := ([(wrap64 (48 + t128)) % 256] : List Int)) (inner := [.int .u8 ((wrap64 (48 + t128)) % 256)]) (ok := fun _ => True) (okp := fun _ => True) ?hr ?hp (fun _ hk => hk) trivial (Below.refl _ _) (Nat.le_refl _) (by simp) ?_; (case hd => rfl); (case hg => rfl); (case hr => first | (go_simp; done) | (go_simp; rfl)); (case hp => exact (Reps.one (show Kd.M (Kd.int .u8) _ _ _ ((wrap64 (48 + t128)) % 256) [.int .u8 ((wrap64 (48 + t128)) % 256)] from rfl) (Reps.none _ _))); intro v130 w10 ho11 hb hg_ hnew_; clear hg_ hnew_; (first | rw [← Ny129.out] at ho11 | (simp only [Int.reduceToNat] at ho11; rw [← Ny129.out] at ho11)); have n0_ := Aside0.mk (Kd.R_lower ho11 (below_size (by repeat (first | (with_reducible first | exact HB.out | apply below_alloc | apply pw_below_drewN | apply below_drew1) | exact HB.out)))); have n1_ := Aside0.mk (below_step (by repeat (first | (with_reducible first | exact HB.out | apply below_alloc | apply pw_below_drewN | apply below_drew1) | exact HB.out)) hb); clear HB; have HO131 := n0_; have HB := n1_; clear n0_ n1_; clear hb ho11; have hcv12 := own_string (P := Tryd.prog) Tryd.underlying25 Tryd.underlying5 Tryd.underlying9 (Kd.own_of_R HO131.out))); try go_wp2_with (first | (go_at_call 18; (with_reducible refine (laws_r8At.calls _ _ l1 (Int.tmod x8_1 48) 2 t128 _ ?side1 ?side2 A8.out).mono ?_); (case side1 => repeat (first | exact (Kd.C_below HR1.out HB.out) | (with_reducible refine Kd.C_alloc ?_ _) | (with_reducible refine Kd.C_drewN ?_ _) | (with_reducible refine Kd.C_drew ?_))); (case side2 => exact HC1.out); rintro e w' ⟨rfl, ⟨nd, rfl⟩⟩; (try first | exact ⟨rfl, _, World.drewN_drewN _ _ _⟩ | exact ⟨rfl, _, Eq.trans (World.drewN_drewN _ _ _) (congrArg (World.drewN _) (Nat.add_assoc _ _ _))⟩)) | ((with_reducible refine gate_dst (N := 49) rfl ?_); (try (refine gate_guard (by rfl) ?_; dsimp only)); refine Kd.R_lit (Kd.int .u8) _ 5 ?hg (N := 49) ?hd (xs := ([(wrap64 (48 + t128)) % 256] : List Int)) (inner := [.int .u8 ((wrap64 (48 + t128)) % 256)]) (ok := fun _ => True) (okp := fun _ => True) ?hr ?hp (fun _ hk => hk) trivial (Below.refl _ _) (Nat.le_refl _) (by simp) ?_; (case hd => rfl); (case hg => rfl); (case hr => first | (go_simp; done) | (go_simp; rfl)); (case hp => exact (Reps.one (show Kd.M (Kd.int .u8) _ _ _ ((wrap64 (48 + t128)) % 256) [.int .u8 ((wrap64 (48 + t128)) % 256)] from rfl) (Reps.none _ _))); intro v130 w10 ho11 hb hg_ hnew_; clear hg_ hnew_; (first | rw [← Ny129.out] at ho11 | (simp only [Int.reduceToNat] at ho11; rw [← Ny129.out] at ho11)); have n0_ := Aside0.mk (Kd.R_lower ho11 (below_size (by repeat (first | (with_reducible first | exact HB.out | apply below_alloc | apply pw_below_drewN | apply below_drew1) | exact HB.out)))); have n1_ := Aside0.mk (below_step (by repeat (first | (with_reducible first | exact HB.out | apply below_alloc | apply pw_below_drewN | apply below_drew1) | exact HB.out)) hb); clear HB; have HO131 := n0_; have HB := n1_; clear n0_ n1_; clear hb ho11; have hcv12 := own_string (P := Tryd.prog) Tryd.underlying25 Tryd.underlying5 Tryd.underlying9 (Kd.own_of_R HO131.out))))
            go_roundg k1
            case measure => have := HK1.out; omega
            case rel => exact ⟨(x7_1 ++ (strOfNums y129)), (wrap64 (x8_1 + 1)), (by first | rfl | (simp; done) | (simp [*]; done)), (by first | rfl | (simp; done) | (simp [*]; done)), H', ⟨by have := HK1.out; omega⟩, ⟨by repeat (first | (with_reducible first | exact HB.out | apply below_alloc | apply pw_below_drewN | apply below_drew1) | exact HB.out)⟩⟩
          · rw [if_neg c9] at H
            exact absurd H (by simp)
        · rw [if_neg c7] at H
          have c7b0 : decide (x8_1 < (wrap64 ((wrap64 (1 + t126)) * (wrap64 (1 + t127))))) = false := decide_eq_false c7
          clear c7
          replace H := Option.bind_eq_some_iff.mp H
          obtain ⟨⟨t132, t133⟩, A130, H⟩ := H
          replace H : ((impl_BlockDeinterleave.f k1 (wrap64 (1 + t126)) (wrap64 (1 + t127)) t132).bind fun bt134 => (if t133 = true then (if bt134.2 = true then (if bt134.1.toList = x7_1.toList then (laws_FnInterleaved.j1 k1 l1 (wrap64 (1 + t126)) (wrap64 (1 + t127)) x7_1 t132 ((t132.size : Int) != (x7_1.size : Int))) else (laws_FnInterleaved.j1 k1 l1 (wrap64 (1 + t126)) (wrap64 (1 + t127)) x7_1 t132 true)) else (laws_FnInterleaved.j1 k1 l1 (wrap64 (1 + t126)) (wrap64 (1 + t127)) x7_1 t132 true)) else (laws_FnInterleaved.j1 k1 l1 (wrap64 (1 + t126)) (wrap64 (1 + t127)) x7_1 t132 true))) = some r := H
          have A13 := Aside0.mk A130
          clear A130
          replace H := Option.bind_eq_some_iff.mp H
          obtain ⟨⟨t134, t135⟩, A140, H⟩ := H
          replace H : (if t133 = true then (if t135 = true then (if t134.toList = x7_1.toList then (laws_FnInterleaved.j1 k1 l1 (wrap64 (1 + t126)) (wrap64 (1 + t127)) x7_1 t132 ((t132.size : Int) != (x7_1.size : Int))) else (laws_FnInterleaved.j1 k1 l1 (wrap64 (1 + t126)) (wrap64 (1 + t127)) x7_1 t132 true)) else (laws_FnInterleaved.j1 k1 l1 (wrap64 (1 + t126)) (wrap64 (1 + t127)) x7_1 t132 true)) else (laws_FnInterleaved.j1 k1 l1 (wrap64 (1 + t126)) (wrap64 (1 + t127)) x7_1 t132 true)) = some r := H
          have A14 := Aside0.mk A140
          clear A140
          have HC15 := Aside0.mk H
          clear H
          go_upto_region 12 with (first | (go_at_call 19; (with_reducible refine (impl_BlockInterleave.calls k1 (wrap64 (1 + t126)) (wrap64 (1 + t127)) x7_1 t132 t133 _ A13.out).mono ?_); rintro e w16 ⟨rfl, hb⟩; have n0_ := Aside0.mk (below_step (by repeat (first | (with_reducible first | exact HB.out | apply below_alloc | apply pw_below_drewN | apply below_drew1) | exact HB.out)) hb); clear HB; have HB := n0_; clear n0_; (try clear hb); (try clear hb2); (try clear hk); (try clear hi)) | (go_at_call 16; (with_reducible refine (impl_BlockDeinterleave.calls k1 (wrap64 (1 + t126)) (wrap64 (1 + t127)) t132 t134 t135 _ A14.out).mono ?_); rintro e w17 ⟨rfl, hb⟩; have n0_ := Aside0.mk (below_step (by repeat (first | (with_reducible first | exact HB.out | apply below_alloc | apply pw_below_drewN | apply below_drew1) | exact HB.out)) hb); clear HB; have HB := n0_; clear n0_; (try clear hb); (try clear hb2); (try clear hk); (try clear hi)))
          repeat (go_quiet (first | (go_at_call 19; (with_reducible refine (impl_BlockInterleave.calls k1 (wrap64 (1 + t126)) (wrap64 (1 + t127)) x7_1 t132 t133 _ A13.out).mono ?_); rintro e w16 ⟨rfl, hb⟩; have n0_ := Aside0.mk (below_step (by repeat (first | (with_reducible first | exact HB.out | apply below_alloc | apply pw_below_drewN | apply below_drew1) | exact HB.out)) hb); clear HB; have HB := n0_; clear n0_; (try clear hb); (try clear hb2); (try clear hk); (try clear hi)) | (go_at_call 16; (with_reducible refine (impl_BlockDeinterleave.calls k1 (wrap64 (1 + t126)) (wrap64 (1 + t127)) t132 t134 t135 _ A14.out).mono ?_); rintro e w17 ⟨rfl, hb⟩; have n0_ := Aside0.mk (below_step (by repeat (first | (with_reducible first | exact HB.out | apply below_alloc | apply pw_below_drewN | apply below_drew1) | exact HB.out)) hb); clear HB; have HB := n0_; clear n0_; (try clear hb); (try clear hb2); (try clear hk); (try clear hi))); go_upto_region 12 with (first | (go_at_call 19; (with_reducible refine (impl_BlockInterleave.calls k1 (wrap64 (1 + t126)) (wrap64 (1 + t127)) x7_1 t132 t133 _ A13.out).mono ?_); rintro e w16 ⟨rfl, hb⟩; have n0_ := Aside0.mk (below_step (by repeat (first | (with_reducible first | exact HB.out | apply below_alloc | apply pw_below_drewN | apply below_drew1) | exact HB.out)) hb); clear HB; have HB := n0_; clear n0_; (try clear hb); (try clear hb2); (try clear hk); (try clear hi)) | (go_at_call 16; (with_reducible refine (impl_BlockDeinterleave.calls k1 (wrap64 (1 + t126)) (wrap64 (1 + t127)) t132 t134 t135 _ A14.out).mono ?_); rintro e w17 ⟨rfl, hb⟩; have n0_ := Aside0.mk (below_step (by repeat (first | (with_reducible first | exact HB.out | apply below_alloc | apply pw_below_drewN | apply below_drew1) | exact HB.out)) hb); clear HB; have HB := n0_; clear n0_; (try clear hb); (try clear hb2); (try clear hk); (try clear hi))))
          (try simp only [Act.put, List.setIfInBounds_toArray, List.set_cons_zero, List.set_cons_succ])
          go_cut [83] (fun v83 wc => ∃ (kq : Nat) (x83_14 : Bool), v83 = .bool x83_14 ∧ Aside0 (laws_FnInterleaved.j1 kq l1 (wrap64 (1 + t126)) (wrap64 (1 + t127)) x7_1 t132 x83_14 = some r) ∧ Aside0 (kq ≤ k1) ∧ Aside0 (Below w.heap.size w wc))
          case first =>
            have H := HC15.out
            clear HC15
            by_cases c18 : t133 = true
            · subst c18
              have H1 : (if t135 = true then (if t134.toList = x7_1.toList then (laws_FnInterleaved.j1 k1 l1 (wrap64 (1 + t126)) (wrap64 (1 + t127)) x7_1 t132 ((t132.size : Int) != (x7_1.size : Int))) else (laws_FnInterleaved.j1 k1 l1 (wrap64 (1 + t126)) (wrap64 (1 + t127)) x7_1 t132 true)) else (laws_FnInterleaved.j1 k1 l1 (wrap64 (1 + t126)) (wrap64 (1 + t127)) x7_1 t132 true)) = some r := by rw [if_pos rfl] at H; exact H
              clear H
              have H := H1
              clear H1
              by_cases c19 : t135 = true
              · subst c19
                have H1 : (if t134.toList = x7_1.toList then (laws_FnInterleaved.j1 k1 l1 (wrap64 (1 + t126)) (wrap64 (1 + t127)) x7_1 t132 ((t132.size : Int) != (x7_1.size : Int))) else (laws_FnInterleaved.j1 k1 l1 (wrap64 (1 + t126)) (wrap64 (1 + t127)) x7_1 t132 true)) = some r := by rw [if_pos rfl] at H; exact H
                clear H
                have H := H1
                clear H1
                by_cases c20 : t134.toList = x7_1.toList
                · rw [if_pos c20] at H
                  have c20b0 : (t134.toList == x7_1.toList) = true := beq_iff_eq.mpr c20
                  have c20b1 : (t134.toList != x7_1.toList) = false := bne_eq_false_iff_eq.mpr c20
                  clear c20
                  (first | rw [c20b0] | (simp only [i64_w, i32_w]; rw [c20b0]) | skip)
                  have H' := Aside0.mk H
                  clear H
                  go_wp2
                  repeat (go_quiet (fail); try go_wp2)
                  go_meet
                  case rel => exact ⟨_, (((t132.size : Int) != (x7_1.size : Int))), (by first | rfl | (simp; done) | (simp [*]; done)), H', ⟨by have := HK1.out; first | omega | exact Nat.le_refl _⟩, ⟨by repeat (first | (with_reducible first | exact HB.out | apply below_alloc | apply pw_below_drewN | apply below_drew1) | exact HB.out)⟩⟩
                · rw [if_neg c20] at H
                  have c20b0 : (t134.toList == x7_1.toList) = false := beq_eq_false_iff_ne.mpr c20
                  have c20b1 : (t134.toList != x7_1.toList) = true := bne_iff_ne.mpr c20
                  (first | rw [c20b0] | (simp only [i64_w, i32_w]; rw [c20b0]) | skip)
                  have H' := Aside0.mk H
                  clear H
                  go_wp2
                  repeat (go_quiet (fail); try go_wp2)
                  go_meet
                  case rel => exact ⟨_, (true), (by first | rfl | (simp; done) | (simp [*]; done)), H', ⟨by have := HK1.out; first | omega | exact Nat.le_refl _⟩, ⟨by repeat (first | (with_reducible first | exact HB.out | apply below_alloc | apply pw_below_drewN | apply below_drew1) | exact HB.out)⟩⟩
              · replace c19 := Bool.eq_false_iff.mpr c19
                subst c19
                have H1 : (laws_FnInterleaved.j1 k1 l1 (wrap64 (1 + t126)) (wrap64 (1 + t127)) x7_1 t132 true) = some r := by rw [if_neg (show ¬ (false = true) by decide)] at H; exact H
                clear H
                have H := H1
                clear H1
                have H' := Aside0.mk H
                clear H
                go_wp2
                repeat (go_quiet (fail); try go_wp2)
                go_meet
                case rel => exact ⟨_, (true), (by first | rfl | (simp; done) | (simp [*]; done)), H', ⟨by have := HK1.out; first | omega | exact Nat.le_refl _⟩, ⟨by repeat (first | (with_reducible first | exact HB.out | apply below_alloc | apply pw_below_drewN | apply below_drew1) | exact HB.out)⟩⟩
            · replace c18 := Bool.eq_false_iff.mpr c18
              subst c18
              have H1 : (laws_FnInterleaved.j1 k1 l1 (wrap64 (1 + t126)) (wrap64 (1 + t127)) x7_1 t132 true) = some r := by rw [if_neg (show ¬ (false = true) by decide)] at H; exact H
              clear H
              have H := H1
              clear H1
              have H' := Aside0.mk H
              clear H
              go_wp2
              repeat (go_quiet (fail); try go_wp2)
              go_meet
              case rel => exact ⟨_, (true), (by first | rfl | (simp; done) | (simp [*]; done)), H', ⟨by have := HK1.out; first | omega | exact Nat.le_refl _⟩, ⟨by repeat (first | (with_reducible first | exact HB.out | apply below_alloc | apply pw_below_drewN | apply below_drew1) | exact HB.out)⟩⟩
          case rest =>
            clear HC15
            try clear c1
            try clear hcv1
            try clear c2
            try clear p2
            try clear c4
            try clear p6
            try clear c7
            try clear c7b0
            try clear c9
            try clear c9b0
            try clear c9b1
            try clear c9b2
            try clear hcv12
            try clear c18
            try clear c19
            try clear c20
            try clear c20b0
            try clear c20b1
            try clear p2
            try clear p6
            obtain ⟨kq, x83_14, rfl, HA, HJ14, HB⟩ := hcut
            cases kq with
            | zero => exact absurd HA.out (by simp [laws_FnInterleaved.j1])
            | succ kj14 =>
              have H := HA.out
              clear HA
              simp only [laws_FnInterleaved.j1] at H
              by_cases c21 : x83_14 = true
              · subst c21
                have H1 : (some false) = some r := by rw [if_pos rfl] at H; exact H
                clear H
                have H := H1
                clear H1
                obtain rfl := Option.some.inj H
                go_wp2
                repeat (go_quiet (fail); try go_wp2)
                go_ret
                exact ⟨by first | rfl | (simp [errW_none, errW_some] <;> rfl) | (simp [*, errW_none, errW_some] <;> rfl), by repeat (first | (with_reducible first | exact HB.out | apply below_alloc | apply pw_below_drewN | apply below_drew1) | exact HB.out)⟩
              · replace c21 := Bool.eq_false_iff.mpr c21
                subst c21
                have H1 : (if 0 ≤ (wrap64 ((wrap64 (1 + t126)) * (wrap64 (1 + t127)))) then (if (wrap64 ((wrap64 (1 + t126)) * (wrap64 (1 + t127))) : Int).toNat ≤ 35184372088832 then (laws_FnInterleaved.l1 kj14 l1 (wrap64 (1 + t126)) (wrap64 (1 + t127)) x7_1 t132 (List.replicate (wrap64 ((wrap64 (1 + t126)) * (wrap64 (1 + t127))) : Int).toNat 0) 0) else (none)) else (none)) = some r := by rw [if_neg (show ¬ (false = true) by decide)] at H; exact H
                clear H
                have H := H1
                clear H1
                obtain ⟨ji22, hji22⟩ : ∃ j_ : Int, (wrap64 ((wrap64 (1 + t126)) * (wrap64 (1 + t127)))) = j_ := ⟨_, rfl⟩
                replace H : (if 0 ≤ (ji22) then (if (ji22 : Int).toNat ≤ 35184372088832 then (laws_FnInterleaved.l1 kj14 l1 (wrap64 (1 + t126)) (wrap64 (1 + t127)) x7_1 t132 (List.replicate (ji22 : Int).toNat 0) 0) else (none)) else (none)) = some r := by first | (rw [hji22] at H; exact H) | (simp only [hji22] at H ⊢; exact H)
                (try rw [hji22] at c7b0)
                have hji22w : (IntKind.i64.wrap ((wrap64 (1 + t126)) * (wrap64 (1 + t127)))) = ji22 := (i64_w _).trans hji22
                (try rw [hji22])
                by_cases c23 : 0 ≤ (ji22)
                · rw [if_pos c23] at H
                  have c23b0 := eq_true c23
                  have c23b1 : decide (0 ≤ (ji22)) = true := decide_eq_true c23
                  clear c23
                  by_cases c24 : (ji22 : Int).toNat ≤ 35184372088832
                  · rw [if_pos c24] at H
                    have c24b0 := eq_true c24
                    have c24b1 : decide ((ji22 : Int).toNat ≤ 35184372088832) = true := decide_eq_true c24
                    clear c24
                    obtain ⟨y136, hy136⟩ : ∃ y_ : List Int, y_ = (List.replicate (ji22 : Int).toNat 0) := ⟨_, rfl⟩
                    replace H : (laws_FnInterleaved.l1 kj14 l1 (wrap64 (1 + t126)) (wrap64 (1 + t127)) x7_1 t132 y136 0) = some r := by first | (rw [hy136]; with_reducible exact H) | (have H2_ := (Option.bind_some _ _).symm.trans H; rw [hy136]; with_reducible exact H2_) | (have H2_ := (Option.bind_some _ _).symm.trans H; with_reducible exact H2_) | with_reducible exact H | (rw [hy136]; exact H) | exact H
                    have Ny136 := Aside0.mk hy136
                    clear hy136
                    have H' := Aside0.mk H
                    clear H
                    go_wp2_with (first | ((with_reducible refine gate_dst (N := 87) rfl ?_); (try (refine gate_guard (by rfl) ?_; dsimp only)); refine Kd.R_make (Kd.int .i64) _ 2 rfl (N := 87) rfl 28 _ _ rfl ji22 rfl rfl Tryd.underlying28 (.int .i64 0) 8 info2 rfl (by decide) (by omega) 0 (ok := fun _ => True) (okp := fun _ => True) rfl (fun _ hk => hk) trivial (of_decide_eq_true (by first | (with_reducible assumption) | assumption)) (Nat.le_trans (Nat.mul_le_mul_right _ (of_decide_eq_true (by first | (with_reducible assumption) | assumption) : ji22.toNat ≤ 35184372088832)) (by omega)) (Below.refl _ _) (Nat.le_refl _) ?_; intro v137 w25 ho26 hb hg_ hnew_; clear hg_ hnew_; (first | rw [← Ny136.out] at ho26 | (simp only [Int.reduceToNat] at ho26; rw [← Ny136.out] at ho26)); have n0_ := Aside0.mk (Kd.R_lower ho26 (below_size (by repeat (first | (with_reducible first | exact HB.out | apply below_alloc | apply pw_below_drewN | apply below_drew1) | exact HB.out)))); have n1_ := Aside0.mk (below_step (by repeat (first | (with_reducible first | exact HB.out | apply below_alloc | apply pw_below_drewN | apply below_drew1) | exact HB.out)) hb); clear HB; have HO138 := n0_; have HB := n1_; clear n0_ n1_; clear hb ho26))
                    repeat (go_quiet (first | ((with_reducible refine gate_dst (N := 87) rfl ?_); (try (refine gate_guard (by rfl) ?_; dsimp only)); refine Kd.R_make (Kd.int .i64) _ 2 rfl (N := 87) rfl 28 _ _ rfl ji22 rfl rfl Tryd.underlying28 (.int .i64 0) 8 info2 rfl (by decide) (by omega) 0 (ok := fun _ => True) (okp := fun _ => True) rfl (fun _ hk => hk) trivial (of_decide_eq_true (by first | (with_reducible assumption) | assumption)) (Nat.le_trans (Nat.mul_le_mul_right _ (of_decide_eq_true (by first | (with_reducible assumption) | assumption) : ji22.toNat ≤ 35184372088832)) (by omega)) (Below.refl _ _) (Nat.le_refl _) ?_; intro v137 w25 ho26 hb hg_ hnew_; clear hg_ hnew_; (first | rw [← Ny136.out] at ho26 | (simp only [Int.reduceToNat] at ho26; rw [← Ny136.out] at ho26)); have n0_ := Aside0.mk (Kd.R_lower ho26 (below_size (by repeat (first | (with_reducible first | exact HB.out | apply below_alloc | apply pw_below_drewN | apply below_drew1) | exact HB.out)))); have n1_ := Aside0.mk (below_step (by repeat (first | (with_reducible first | exact HB.out | apply below_alloc | apply pw_below_drewN | apply below_drew1) | exact HB.out)) hb); clear HB; have HO138 := n0_; have HB := n1_; clear n0_ n1_; clear hb ho26)); try go_wp2_with (first | ((with_reducible refine gate_dst (N := 87) rfl ?_); (try (refine gate_guard (by rfl) ?_; dsimp only)); refine Kd.R_make (Kd.int .i64) _ 2 rfl (N := 87) rfl 28 _ _ rfl ji22 rfl rfl Tryd.underlying28 (.int .i64 0) 8 info2 rfl (by decide) (by omega) 0 (ok := fun _ => True) (okp := fun _ => True) rfl (fun _ hk => hk) trivial (of_decide_eq_true (by first | (with_reducible assumption) | assumption)) (Nat.le_trans (Nat.mul_le_mul_right _ (of_decide_eq_true (by first | (with_reducible assumption) | assumption) : ji22.toNat ≤ 35184372088832)) (by omega)) (Below.refl _ _) (Nat.le_refl _) ?_; intro v137 w25 ho26 hb hg_ hnew_; clear hg_ hnew_; (first | rw [← Ny136.out] at ho26 | (simp only [Int.reduceToNat] at ho26; rw [← Ny136.out] at ho26)); have n0_ := Aside0.mk (Kd.R_lower ho26 (below_size (by repeat (first | (with_reducible first | exact HB.out | apply below_alloc | apply pw_below_drewN | apply below_drew1) | exact HB.out)))); have n1_ := Aside0.mk (below_step (by repeat (first | (with_reducible first | exact HB.out | apply below_alloc | apply pw_below_drewN | apply below_drew1) | exact HB.out)) hb); clear HB; have HO138 := n0_; have HB := n1_; clear n0_ n1_; clear hb ho26)))
                    go_loopg [14] kj14 (fun kq v14 w' => ∃ (x13_3 : List Int) (x14_3 : Int), v14 = .int .i64 x14_3 ∧ Aside0 (laws_FnInterleaved.l1 kq l1 (wrap64 (1 + t126)) (wrap64 (1 + t127)) x7_1 t132 x13_3 x14_3 = some r) ∧ Aside0 (kq ≤ kj14) ∧ Aside0 (Kd.R (Kd.int .i64) 2 w' w.heap.size (fun _ => True) v137 x13_3) ∧ Aside0 (Below w.heap.size w w'))
                    case atStart => exact ⟨(y136), (0), (by first | rfl | (simp; done) | (simp [*]; done)), H', ⟨Nat.le_refl _⟩, ⟨by (with_reducible repeat (first | apply Kd.R_alloc | apply Kd.R_drewN | apply Kd.R_drew)); exact HO138.out⟩, ⟨by repeat (first | (with_reducible first | exact HB.out | apply below_alloc | apply pw_below_drewN | apply below_drew1) | exact HB.out)⟩⟩
                    case round =>
                      clear H'
                      try clear c1
                      try clear hcv1
                      try clear c2
                      try clear p2
                      try clear c4
                      try clear p6
                      try clear c7
                      try clear c7b0
                      try clear c9
                      try clear c9b0
                      try clear c9b1
                      try clear c9b2
                      try clear hcv12
                      try clear c18
                      try clear c19
                      try clear c20
                      try clear c20b0
                      try clear c20b1
                      try clear c21
                      try clear c23
                      try clear c23b0
                      try clear c23b1
                      try clear c24
                      try clear c24b0
                      try clear c24b1
                      try clear p2
                      try clear p6
                      obtain ⟨x13_3, x14_3, rfl, HA, HK3, HO_13, HB⟩ := hrel
                      subst hji22
                      cases gk with
                      | zero => exact absurd HA.out (by simp [laws_FnInterleaved.l1])
                      | succ k3 =>
                        have H := HA.out
                        clear HA
                        simp only [laws_FnInterleaved.l1] at H
                        by_cases c27 : x14_3 < (wrap64 ((wrap64 (1 + t126)) * (wrap64 (1 + t127))))
                        · rw [if_pos c27] at H
                          have c27b0 : decide (x14_3 < (wrap64 ((wrap64 (1 + t126)) * (wrap64 (1 + t127))))) = true := decide_eq_true c27
                          clear c27
                          replace H := Option.bind_eq_some_iff.mp H
                          obtain ⟨⟨t139, t140⟩, A280, H⟩ := H
                          replace H : (if t140 = true then (if t139 < 0 then (some false) else (if t139 ≥ (wrap64 ((wrap64 (1 + t126)) * (wrap64 (1 + t127)))) then (some false) else (if 0 ≤ t139 then (if t139 < (t132.size : Int) then (if 0 ≤ x14_3 then (if x14_3 < (x7_1.size : Int) then (if (bt t132 t139) = (bt x7_1 x14_3) then (if t139 < (x13_3.length : Int) then (laws_FnInterleaved.l1 k3 l1 (wrap64 (1 + t126)) (wrap64 (1 + t127)) x7_1 t132 (x13_3.set (t139 : Int).toNat x14_3) (wrap64 (x14_3 + 1))) else (none)) else (some false)) else (none)) else (none)) else (none)) else (none)))) else (some false)) = some r := H
                          have A28 := Aside0.mk A280
                          clear A280
                          by_cases c29 : t140 = true
                          · subst c29
                            have H1 : (if t139 < 0 then (some false) else (if t139 ≥ (wrap64 ((wrap64 (1 + t126)) * (wrap64 (1 + t127)))) then (some false) else (if 0 ≤ t139 then (if t139 < (t132.size : Int) then (if 0 ≤ x14_3 then (if x14_3 < (x7_1.size : Int) then (if (bt t132 t139) = (bt x7_1 x14_3) then (if t139 < (x13_3.length : Int) then (laws_FnInterleaved.l1 k3 l1 (wrap64 (1 + t126)) (wrap64 (1 + t127)) x7_1 t132 (x13_3.set (t139 : Int).toNat x14_3) (wrap64 (x14_3 + 1))) else (none)) else (some false)) else (none)) else (none)) else (none)) else (none)))) = some r := by rw [if_pos rfl] at H; exact H
                            clear H
                            have H := H1
                            clear H1
                            by_cases c30 : t139 < 0
                            · rw [if_pos c30] at H
                              have c30b0 : decide (t139 < 0) = true := decide_eq_true c30
                              clear c30
                              obtain rfl := Option.some.inj H
                              go_wp2_with (first | (go_at_call 20; (with_reducible refine (impl_PlaceBehind.calls (wrap64 (1 + t126)) (wrap64 (1 + t127)) x14_3 t139 true _ A28.out).mono ?_); rintro e w' ⟨rfl, ⟨nd, rfl⟩⟩; (try first | exact ⟨rfl, _, World.drewN_drewN _ _ _⟩ | exact ⟨rfl, _, Eq.trans (World.drewN_drewN _ _ _) (congrArg (World.drewN _) (Nat.add_assoc _ _ _))⟩)))
                              repeat (go_quiet (first | (go_at_call 20; (with_reducible refine (impl_PlaceBehind.calls (wrap64 (1 + t126)) (wrap64 (1 + t127)) x14_3 t139 true _ A28.out).mono ?_); rintro e w' ⟨rfl, ⟨nd, rfl⟩⟩; (try first | exact ⟨rfl, _, World.drewN_drewN _ _ _⟩ | exact ⟨rfl, _, Eq.trans (World.drewN_drewN _ _ _) (congrArg (World.drewN _) (Nat.add_assoc _ _ _))⟩))); try go_wp2_with (first | (go_at_call 20; (with_reducible refine (impl_PlaceBehind.calls (wrap64 (1 + t126)) (wrap64 (1 + t127)) x14_3 t139 true _ A28.out).mono ?_); rintro e w' ⟨rfl, ⟨nd, rfl⟩⟩; (try first | exact ⟨rfl, _, World.drewN_drewN _ _ _⟩ | exact ⟨rfl, _, Eq.trans (World.drewN_drewN _ _ _) (congrArg (World.drewN _) (Nat.add_assoc _ _ _))⟩))))
                              go_ret
                              exact ⟨by first | rfl | (simp [errW_none, errW_some] <;> rfl) | (simp only [← hji22]; first | rfl | (simp [errW_none, errW_some] <;> rfl)) | (simp [*, errW_none, errW_some] <;> rfl), by repeat (first | (with_reducible first | exact HB.out | apply below_alloc | apply pw_below_drewN | apply below_drew1) | exact HB.out)⟩
                            · rw [if_neg c30] at H
                              have c30b0 : decide (t139 < 0) = false := decide_eq_false c30
                              clear c30
                              by_cases c31 : t139 ≥ (wrap64 ((wrap64 (1 + t126)) * (wrap64 (1 + t127))))
                              · rw [if_pos c31] at H
                                have c31b0 : decide ((wrap64 ((wrap64 (1 + t126)) * (wrap64 (1 + t127)))) ≤ t139) = true := decide_eq_true c31
                                clear c31
                                obtain rfl := Option.some.inj H
                                go_wp2_with (first | (go_at_call 20; (with_reducible refine (impl_PlaceBehind.calls (wrap64 (1 + t126)) (wrap64 (1 + t127)) x14_3 t139 true _ A28.out).mono ?_); rintro e w' ⟨rfl, ⟨nd, rfl⟩⟩; (try first | exact ⟨rfl, _, World.drewN_drewN _ _ _⟩ | exact ⟨rfl, _, Eq.trans (World.drewN_drewN _ _ _) (congrArg (World.drewN _) (Nat.add_assoc _ _ _))⟩)))
                                repeat (go_quiet (first | (go_at_call 20; (with_reducible refine (impl_PlaceBehind.calls (wrap64 (1 + t126)) (wrap64 (1 + t127)) x14_3 t139 true _ A28.out).mono ?_); rintro e w' ⟨rfl, ⟨nd, rfl⟩⟩; (try first | exact ⟨rfl, _, World.drewN_drewN _ _ _⟩ | exact ⟨rfl, _, Eq.trans (World.drewN_drewN _ _ _) (congrArg (World.drewN _) (Nat.add_assoc _ _ _))⟩))); try go_wp2_with (first | (go_at_call 20; (with_reducible refine (impl_PlaceBehind.calls (wrap64 (1 + t126)) (wrap64 (1 + t127)) x14_3 t139 true _ A28.out).mono ?_); rintro e w' ⟨rfl, ⟨nd, rfl⟩⟩; (try first | exact ⟨rfl, _, World.drewN_drewN _ _ _⟩ | exact ⟨rfl, _, Eq.trans (World.drewN_drewN _ _ _) (congrArg (World.drewN _) (Nat.add_assoc _ _ _))⟩))))
                                go_ret
                                exact ⟨by first | rfl | (simp [errW_none, errW_some] <;> rfl) | (simp only [← hji22]; first | rfl | (simp [errW_none, errW_some] <;> rfl)) | (simp [*, errW_none, errW_some] <;> rfl), by repeat (first | (with_reducible first | exact HB.out | apply below_alloc | apply pw_below_drewN | apply below_drew1) | exact HB.out)⟩
                              · rw [if_neg c31] at H
                                have c31b0 : decide ((wrap64 ((wrap64 (1 + t126)) * (wrap64 (1 + t127)))) ≤ t139) = false := decide_eq_false c31
                                clear c31
                                by_cases c32 : 0 ≤ t139
                                · rw [if_pos c32] at H
                                  have c32b0 : decide (0 ≤ t139) = true := decide_eq_true c32
                                  clear c32
                                  by_cases c33 : t139 < (t132.size : Int)
                                  · rw [if_pos c33] at H
                                    have c33b0 : decide (t139 < (t132.size : Int)) = true := decide_eq_true c33
                                    clear c33
                                    by_cases c35 : 0 ≤ x14_3
                                    · rw [if_pos c35] at H
                                      have c35b0 : decide (0 ≤ x14_3) = true := decide_eq_true c35
                                      clear c35
                                      by_cases c36 : x14_3 < (x7_1.size : Int)
                                      · rw [if_pos c36] at H
                                        have c36b0 : decide (x14_3 < (x7_1.size : Int)) = true := decide_eq_true c36
                                        clear c36
                                        by_cases c38 : (bt t132 t139) = (bt x7_1 x14_3)
                                        · rw [if_pos c38] at H
                                          have c38b0 : ((bt t132 t139) == (bt x7_1 x14_3)) = true := beq_iff_eq.mpr c38
                                          have c38b1 : ((bt t132 t139) != (bt x7_1 x14_3)) = false := bne_eq_false_iff_eq.mpr c38
                                          clear c38
                                          by_cases c39 : t139 < (x13_3.length : Int)
                                          · rw [if_pos c39] at H
                                            have c39b0 : decide (t139 < (x13_3.length : Int)) = true := decide_eq_true c39
                                            clear c39
                                            obtain ⟨y141, hy141⟩ : ∃ y_ : List Int, y_ = (x13_3.set (t139 : Int).toNat x14_3) := ⟨_, rfl⟩
                                            replace H : (laws_FnInterleaved.l1 k3 l1 (wrap64 (1 + t126)) (wrap64 (1 + t127)) x7_1 t132 y141 (wrap64 (x14_3 + 1))) = some r := by first | (rw [hy141]; with_reducible exact H) | (have H2_ := (Option.bind_some _ _).symm.trans H; rw [hy141]; with_reducible exact H2_) | (have H2_ := (Option.bind_some _ _).symm.trans H; with_reducible exact H2_) | with_reducible exact H | (rw [hy141]; exact H) | exact H
                                            have Ny141 := Aside0.mk hy141
                                            clear hy141
                                            have H' := Aside0.mk H
                                            clear H
                                            go_wp2_with (first | (go_at_call 20; (with_reducible refine (impl_PlaceBehind.calls (wrap64 (1 + t126)) (wrap64 (1 + t127)) x14_3 t139 true _ A28.out).mono ?_); rintro e w' ⟨rfl, ⟨nd, rfl⟩⟩; (try first | exact ⟨rfl, _, World.drewN_drewN _ _ _⟩ | exact ⟨rfl, _, Eq.trans (World.drewN_drewN _ _ _) (congrArg (World.drewN _) (Nat.add_assoc _ _ _))⟩); have p34 : 0 ≤ (t139 : Int) := of_decide_eq_true (by first | (with_reducible assumption) | assumption); have q34 : t139 < (t132.size : Int) := of_decide_eq_true (by first | (with_reducible assumption) | assumption); have hx34 := bt_at t132 t139; replace p34 := eq_true p34; replace q34 := eq_true q34; have p37 : 0 ≤ (x14_3 : Int) := of_decide_eq_true (by first | (with_reducible assumption) | assumption); have q37 : x14_3 < (x7_1.size : Int) := of_decide_eq_true (by first | (with_reducible assumption) | assumption); have hx37 := bt_at x7_1 x14_3; replace p37 := eq_true p37; replace q37 := eq_true q37; have p40 : 0 ≤ (t139 : Int) := of_decide_eq_true (by first | (with_reducible assumption) | assumption); have q40 : (t139 : Int) < ((x13_3.length : Int) : Int) := of_decide_eq_true (by first | (with_reducible assumption) | assumption); obtain ⟨go40, co40, eo40, gb40, gl40, cl40, HG40⟩ := Kd.R_form HO_13.out (by omega); (first | cases eo40 | (injection eo40 with ea_ en_ ec_; (first | subst ea_ | (injection ea_ with ea_; subst ea_)); subst ec_; clear en_)); have GB40 := Aside0.mk gb40; have GG40 := Aside0.mk HG40; clear gb40 gl40 HG40; obtain ⟨hx40_0, hf40_0⟩ := Kd.R_celln 0 HO_13.out (t139 : Int) p40 q40; replace p40 := eq_true p40; replace q40 := eq_true q40; obtain ⟨hy41_, hz41_⟩ := Kd.R_celln 0 HO_13.out (t139 : Int) (of_decide_eq_true (by first | (with_reducible assumption) | assumption)) (of_decide_eq_true (by first | (with_reducible assumption) | assumption)); have HP41 := Kd.R_putg HO_13.out (t139 : Int) x14_3) | ((with_reducible refine gate_store (t := 2) (p := 127) rfl ?_); (try (rw [drewN_self wr]; generalize hq_ : World.drewN wr _ = wr; have n0_ := Aside0.mk (Kd.R_at hq_ HO_13.out); have n1_ := Aside0.mk (below_at hq_ HB.out); clear hq_ HO_13 HB; have HO_13 := n0_; have HB := n1_; clear n0_ n1_; (try (obtain ⟨hy41_, hz41_⟩ := Kd.R_celln 0 HO_13.out (t139 : Int) (of_decide_eq_true (by first | (with_reducible assumption) | assumption)) (of_decide_eq_true (by first | (with_reducible assumption) | assumption)))); (try (have HP41 := Kd.R_putg HO_13.out (t139 : Int) x14_3)))); refine store_event (t := 2) (p := 127) (v := ?vo_w42) (w1 := (wr.setCell ⟨go40, (t139 : Int).toNat, none⟩ (.int .i64 x14_3))) ?hg ?ho ?hn ?hr ?_; (case ho => rfl); (case hg => rfl); (case hn => rfl); (case hr => first | (go_simp; done) | (go_simp; rfl)); intro w42 hw; have hg : wr.grownBy w42 (some go40) := (by rw [hw]; exact HP41.2); have hp_ : Kd.R (Kd.int .i64) 2 w42 w.heap.size (fun _ => True) (.slice (some ⟨go40, 0, none⟩) x13_3.length co40) y141 := (by rw [hw, Ny141.out]; exact HP41.1); clear HP41; have n0_ := Aside0.mk (hp_); have n1_ := Aside0.mk ((by rw [hw]; exact below_set (HB.out) GB40.out : Below w.heap.size w w42)); clear HO_13; clear HB; have HO_13 := n0_; have HB := n1_; clear n0_ n1_; clear hg hw hp_))
                                            repeat (go_quiet (first | (go_at_call 20; (with_reducible refine (impl_PlaceBehind.calls (wrap64 (1 + t126)) (wrap64 (1 + t127)) x14_3 t139 true _ A28.out).mono ?_); rintro e w' ⟨rfl, ⟨nd, rfl⟩⟩; (try first | exact ⟨rfl, _, World.drewN_drewN _ _ _⟩ | exact ⟨rfl, _, Eq.trans (World.drewN_drewN _ _ _) (congrArg (World.drewN _) (Nat.add_assoc _ _ _))⟩); have p34 : 0 ≤ (t139 : Int) := of_decide_eq_true (by first | (with_reducible assumption) | assumption); have q34 : t139 < (t132.size : Int) := of_decide_eq_true (by first | (with_reducible assumption) | assumption); have hx34 := bt_at t132 t139; replace p34 := eq_true p34; replace q34 := eq_true q34; have p37 : 0 ≤ (x14_3 : Int) := of_decide_eq_true (by first | (with_reducible assumption) | assumption); have q37 : x14_3 < (x7_1.size : Int) := of_decide_eq_true (by first | (with_reducible assumption) | assumption); have hx37 := bt_at x7_1 x14_3; replace p37 := eq_true p37; replace q37 := eq_true q37; have p40 : 0 ≤ (t139 : Int) := of_decide_eq_true (by first | (with_reducible assumption) | assumption); have q40 : (t139 : Int) < ((x13_3.length : Int) : Int) := of_decide_eq_true (by first | (with_reducible assumption) | assumption); obtain ⟨go40, co40, eo40, gb40, gl40, cl40, HG40⟩ := Kd.R_form HO_13.out (by omega); (first | cases eo40 | (injection eo40 with ea_ en_ ec_; (first | subst ea_ | (injection ea_ with ea_; subst ea_)); subst ec_; clear en_)); have GB40 := Aside0.mk gb40; have GG40 := Aside0.mk HG40; clear gb40 gl40 HG40; obtain ⟨hx40_0, hf40_0⟩ := Kd.R_celln 0 HO_13.out (t139 : Int) p40 q40; replace p40 := eq_true p40; replace q40 := eq_true q40; obtain ⟨hy41_, hz41_⟩ := Kd.R_celln 0 HO_13.out (t139 : Int) (of_decide_eq_true (by first | (with_reducible assumption) | assumption)) (of_decide_eq_true (by first | (with_reducible assumption) | assumption)); have HP41 := Kd.R_putg HO_13.out (t139 : Int) x14_3) | ((with_reducible refine gate_store (t := 2) (p := 127) rfl ?_); (try (rw [drewN_self wr]; generalize hq_ : World.drewN wr _ = wr; have n0_ := Aside0.mk (Kd.R_at hq_ HO_13.out); have n1_ := Aside0.mk (below_at hq_ HB.out); clear hq_ HO_13 HB; have HO_13 := n0_; have HB := n1_; clear n0_ n1_; (try (obtain ⟨hy41_, hz41_⟩ := Kd.R_celln 0 HO_13.out (t139 : Int) (of_decide_eq_true (by first | (with_reducible assumption) | assumption)) (of_decide_eq_true (by first | (with_reducible assumption) | assumption)))); (try (have HP41 := Kd.R_putg HO_13.out (t139 : Int) x14_3)))); refine store_event (t := 2) (p := 127) (v := ?vo_w42) (w1 := (wr.setCell ⟨go40, (t139 : Int).toNat, none⟩ (.int .i64 x14_3))) ?hg ?ho ?hn ?hr ?_; (case ho => rfl); (case hg => rfl); (case hn => rfl); (case hr => first | (go_simp; done) | (go_simp; rfl)); intro w42 hw; have hg : wr.grownBy w42 (some go40) := (by rw [hw]; exact HP41.2); have hp_ : Kd.R (Kd.int .i64) 2 w42 w.heap.size (fun _ => True) (.slice (some ⟨go40, 0, none⟩) x13_3.length co40) y141 := (by rw [hw, Ny141.out]; exact HP41.1); clear HP41; have n0_ := Aside0.mk (hp_); have n1_ := Aside0.mk ((by rw [hw]; exact below_set (HB.out) GB40.out : Below w.heap.size w w42)); clear HO_13; clear HB; have HO_13 := n0_; have HB := n1_; clear n0_ n1_; clear hg hw hp_)); try go_wp2_with (first | (go_at_call 20; (with_reducible refine (impl_PlaceBehind.calls (wrap64 (1 + t126)) (wrap64 (1 + t127)) x14_3 t139 true _ A28.out).mono ?_); rintro e w' ⟨rfl, ⟨nd, rfl⟩⟩; (try first | exact ⟨rfl, _, World.drewN_drewN _ _ _⟩ | exact ⟨rfl, _, Eq.trans (World.drewN_drewN _ _ _) (congrArg (World.drewN _) (Nat.add_assoc _ _ _))⟩); have p34 : 0 ≤ (t139 : Int) := of_decide_eq_true (by first | (with_reducible assumption) | assumption); have q34 : t139 < (t132.size : Int) := of_decide_eq_true (by first | (with_reducible assumption) | assumption); have hx34 := bt_at t132 t139; replace p34 := eq_true p34; replace q34 := eq_true q34; have p37 : 0 ≤ (x14_3 : Int) := of_decide_eq_true (by first | (with_reducible assumption) | assumption); have q37 : x14_3 < (x7_1.size : Int) := of_decide_eq_true (by first | (with_reducible assumption) | assumption); have hx37 := bt_at x7_1 x14_3; replace p37 := eq_true p37; replace q37 := eq_true q37; have p40 : 0 ≤ (t139 : Int) := of_decide_eq_true (by first | (with_reducible assumption) | assumption); have q40 : (t139 : Int) < ((x13_3.length : Int) : Int) := of_decide_eq_true (by first | (with_reducible assumption) | assumption); obtain ⟨go40, co40, eo40, gb40, gl40, cl40, HG40⟩ := Kd.R_form HO_13.out (by omega); (first | cases eo40 | (injection eo40 with ea_ en_ ec_; (first | subst ea_ | (injection ea_ with ea_; subst ea_)); subst ec_; clear en_)); have GB40 := Aside0.mk gb40; have GG40 := Aside0.mk HG40; clear gb40 gl40 HG40; obtain ⟨hx40_0, hf40_0⟩ := Kd.R_celln 0 HO_13.out (t139 : Int) p40 q40; replace p40 := eq_true p40; replace q40 := eq_true q40; obtain ⟨hy41_, hz41_⟩ := Kd.R_celln 0 HO_13.out (t139 : Int) (of_decide_eq_true (by first | (with_reducible assumption) | assumption)) (of_decide_eq_true (by first | (with_reducible assumption) | assumption)); have HP41 := Kd.R_putg HO_13.out (t139 : Int) x14_3) | ((with_reducible refine gate_store (t := 2) (p := 127) rfl ?_); (try (rw [drewN_self wr]; generalize hq_ : World.drewN wr _ = wr; have n0_ := Aside0.mk (Kd.R_at hq_ HO_13.out); have n1_ := Aside0.mk (below_at hq_ HB.out); clear hq_ HO_13 HB; have HO_13 := n0_; have HB := n1_; clear n0_ n1_; (try (obtain ⟨hy41_, hz41_⟩ := Kd.R_celln 0 HO_13.out (t139 : Int) (of_decide_eq_true (by first | (with_reducible assumption) | assumption)) (of_decide_eq_true (by first | (with_reducible assumption) | assumption)))); (try (have HP41 := Kd.R_putg HO_13.out (t139 : Int) x14_3)))); refine store_event (t := 2) (p := 127) (v := ?vo_w42) (w1 := (wr.setCell ⟨go40, (t139 : Int).toNat, none⟩ (.int .i64 x14_3))) ?hg ?ho ?hn ?hr ?_; (case ho => rfl); (case hg => rfl); (case hn => rfl); (case hr => first | (go_simp; done) | (go_simp; rfl)); intro w42 hw; have hg : wr.grownBy w42 (some go40) := (by rw [hw]; exact HP41.2); have hp_ : Kd.R (Kd.int .i64) 2 w42 w.heap.size (fun _ => True) (.slice (some ⟨go40, 0, none⟩) x13_3.length co40) y141 := (by rw [hw, Ny141.out]; exact HP41.1); clear HP41; have n0_ := Aside0.mk (hp_); have n1_ := Aside0.mk ((by rw [hw]; exact below_set (HB.out) GB40.out : Below w.heap.size w w42)); clear HO_13; clear HB; have HO_13 := n0_; have HB := n1_; clear n0_ n1_; clear hg hw hp_)))
                                            go_roundg k3
                                            case measure => have := HK1.out; have := HJ14.out; have := HK3.out; omega
                                            case rel => exact ⟨(y141), (wrap64 (x14_3 + 1)), (by first | rfl | (simp; done) | (simp [*]; done)), H', ⟨by have := HK1.out; have := HJ14.out; have := HK3.out; omega⟩, ⟨by (with_reducible repeat (first | apply Kd.R_alloc | apply Kd.R_drewN | apply Kd.R_drew)); exact HO_13.out⟩, ⟨by repeat (first | (with_reducible first | exact HB.out | apply below_alloc | apply pw_below_drewN | apply below_drew1) | exact HB.out)⟩⟩
                                          · rw [if_neg c39] at H
                                            exact absurd H (by simp)
                                        · rw [if_neg c38] at H
                                          have c38b0 : ((bt t132 t139) == (bt x7_1 x14_3)) = false := beq_eq_false_iff_ne.mpr c38
                                          have c38b1 : ((bt t132 t139) != (bt x7_1 x14_3)) = true := bne_iff_ne.mpr c38
                                          obtain rfl := Option.some.inj H
                                          go_wp2_with (first | (go_at_call 20; (with_reducible refine (impl_PlaceBehind.calls (wrap64 (1 + t126)) (wrap64 (1 + t127)) x14_3 t139 true _ A28.out).mono ?_); rintro e w' ⟨rfl, ⟨nd, rfl⟩⟩; (try first | exact ⟨rfl, _, World.drewN_drewN _ _ _⟩ | exact ⟨rfl, _, Eq.trans (World.drewN_drewN _ _ _) (congrArg (World.drewN _) (Nat.add_assoc _ _ _))⟩); have p34 : 0 ≤ (t139 : Int) := of_decide_eq_true (by first | (with_reducible assumption) | assumption); have q34 : t139 < (t132.size : Int) := of_decide_eq_true (by first | (with_reducible assumption) | assumption); have hx34 := bt_at t132 t139; replace p34 := eq_true p34; replace q34 := eq_true q34; have p37 : 0 ≤ (x14_3 : Int) := of_decide_eq_true (by first | (with_reducible assumption) | assumption); have q37 : x14_3 < (x7_1.size : Int) := of_decide_eq_true (by first | (with_reducible assumption) | assumption); have hx37 := bt_at x7_1 x14_3; replace p37 := eq_true p37; replace q37 := eq_true q37))
                                          repeat (go_quiet (first | (go_at_call 20; (with_reducible refine (impl_PlaceBehind.calls (wrap64 (1 + t126)) (wrap64 (1 + t127)) x14_3 t139 true _ A28.out).mono ?_); rintro e w' ⟨rfl, ⟨nd, rfl⟩⟩; (try first | exact ⟨rfl, _, World.drewN_drewN _ _ _⟩ | exact ⟨rfl, _, Eq.trans (World.drewN_drewN _ _ _) (congrArg (World.drewN _) (Nat.add_assoc _ _ _))⟩); have p34 : 0 ≤ (t139 : Int) := of_decide_eq_true (by first | (with_reducible assumption) | assumption); have q34 : t139 < (t132.size : Int) := of_decide_eq_true (by first | (with_reducible assumption) | assumption); have hx34 := bt_at t132 t139; replace p34 := eq_true p34; replace q34 := eq_true q34; have p37 : 0 ≤ (x14_3 : Int) := of_decide_eq_true (by first | (with_reducible assumption) | assumption); have q37 : x14_3 < (x7_1.size : Int) := of_decide_eq_true (by first | (with_reducible assumption) | assumption); have hx37 := bt_at x7_1 x14_3; replace p37 := eq_true p37; replace q37 := eq_true q37)); try go_wp2_with (first | (go_at_call 20; (with_reducible refine (impl_PlaceBehind.calls (wrap64 (1 + t126)) (wrap64 (1 + t127)) x14_3 t139 true _ A28.out).mono ?_); rintro e w' ⟨rfl, ⟨nd, rfl⟩⟩; (try first | exact ⟨rfl, _, World.drewN_drewN _ _ _⟩ | exact ⟨rfl, _, Eq.trans (World.drewN_drewN _ _ _) (congrArg (World.drewN _) (Nat.add_assoc _ _ _))⟩); have p34 : 0 ≤ (t139 : Int) := of_decide_eq_true (by first | (with_reducible assumption) | assumption); have q34 : t139 < (t132.size : Int) := of_decide_eq_true (by first | (with_reducible assumption) | assumption); have hx34 := bt_at t132 t139; replace p34 := eq_true p34; replace q34 := eq_true q34; have p37 : 0 ≤ (x14_3 : Int) := of_decide_eq_true (by first | (with_reducible assumption) | assumption); have q37 : x14_3 < (x7_1.size : Int) := of_decide_eq_true (by first | (with_reducible assumption) | assumption); have hx37 := bt_at x7_1 x14_3; replace p37 := eq_true p37; replace q37 := eq_true q37)))
                                          go_ret
                                          exact ⟨by first | rfl | (simp [errW_none, errW_some] <;> rfl) | (simp only [← hji22]; first | rfl | (simp [errW_none, errW_some] <;> rfl)) | (simp [*, errW_none, errW_some] <;> rfl), by repeat (first | (with_reducible first | exact HB.out | apply below_alloc | apply pw_below_drewN | apply below_drew1) | exact HB.out)⟩
                                      · rw [if_neg c36] at H
                                        exact absurd H (by simp)
                                    · rw [if_neg c35] at H
                                      exact absurd H (by simp)
                                  · rw [if_neg c33] at H
                                    exact absurd H (by simp)
                                · rw [if_neg c32] at H
                                  exact absurd H (by simp)
                          · replace c29 := Bool.eq_false_iff.mpr c29
                            subst c29
                            have H1 : (some false) = some r := by rw [if_neg (show ¬ (false = true) by decide)] at H; exact H
                            clear H
                            have H := H1
                            clear H1
                            obtain rfl := Option.some.inj H
                            go_wp2_with (first | (go_at_call 20; (with_reducible refine (impl_PlaceBehind.calls (wrap64 (1 + t126)) (wrap64 (1 + t127)) x14_3 t139 false _ A28.out).mono ?_); rintro e w' ⟨rfl, ⟨nd, rfl⟩⟩; (try first | exact ⟨rfl, _, World.drewN_drewN _ _ _⟩ | exact ⟨rfl, _, Eq.trans (World.drewN_drewN _ _ _) (congrArg (World.drewN _) (Nat.add_assoc _ _ _))⟩)))
                            repeat (go_quiet (first | (go_at_call 20; (with_reducible refine (impl_PlaceBehind.calls (wrap64 (1 + t126)) (wrap64 (1 + t127)) x14_3 t139 false _ A28.out).mono ?_); rintro e w' ⟨rfl, ⟨nd, rfl⟩⟩; (try first | exact ⟨rfl, _, World.drewN_drewN _ _ _⟩ | exact ⟨rfl, _, Eq.trans (World.drewN_drewN _ _ _) (congrArg (World.drewN _) (Nat.add_assoc _ _ _))⟩))); try go_wp2_with (first | (go_at_call 20; (with_reducible refine (impl_PlaceBehind.calls (wrap64 (1 + t126)) (wrap64 (1 + t127)) x14_3 t139 false _ A28.out).mono ?_); rintro e w' ⟨rfl, ⟨nd, rfl⟩⟩; (try first | exact ⟨rfl, _, World.drewN_drewN _ _ _⟩ | exact ⟨rfl, _, Eq.trans (World.drewN_drewN _ _ _) (congrArg (World.drewN _) (Nat.add_assoc _ _ _))⟩))))
                            go_ret
                            exact ⟨by first | rfl | (simp [errW_none, errW_some] <;> rfl) | (simp only [← hji22]; first | rfl | (simp [errW_none, errW_some] <;> rfl)) | (simp [*, errW_none, errW_some] <;> rfl), by repeat (first | (with_reducible first | exact HB.out | apply below_alloc | apply pw_below_drewN | apply below_drew1) | exact HB.out)⟩
                        · rw [if_neg c27] at H
                          have c27b0 : decide (x14_3 < (wrap64 ((wrap64 (1 + t126)) * (wrap64 (1 + t127))))) = false := decide_eq_false c27
                          clear c27
                          replace H := Option.bind_eq_some_iff.mp H
                          obtain ⟨t142, A430, H⟩ := H
                          replace H : ((laws_r8At.f l1 1 (wrap64 ((wrap64 ((wrap64 ((wrap64 (1 + t126)) * (wrap64 (1 + t127)))) - (wrap64 (1 + t142)))) + 1))).bind fun t143 => ((impl_MostInRow.f (wrap64 (1 + t126)) (wrap64 (1 + t127)) (wrap64 (1 + t142))).bind fun bt144 => ((impl_LeastApart.f k3 (wrap64 (1 + t126)) (wrap64 (1 + t127)) (wrap64 (1 + t142))).bind fun bt146 => (if bt144.2 = true then (laws_FnInterleaved.j3 k3 (wrap64 (1 + t126)) (wrap64 (1 + t127)) x13_3 (wrap64 (1 + t142)) t143 bt144.1 bt146.1 (bt146.2 != (decide ((wrap64 (1 + t142)) > 1)))) else (laws_FnInterleaved.j3 k3 (wrap64 (1 + t126)) (wrap64 (1 + t127)) x13_3 (wrap64 (1 + t142)) t143 bt144.1 bt146.1 true))))) = some r := H
                          have A43 := Aside0.mk A430
                          clear A430
                          replace H := Option.bind_eq_some_iff.mp H
                          obtain ⟨t143, A440, H⟩ := H
                          replace H : ((impl_MostInRow.f (wrap64 (1 + t126)) (wrap64 (1 + t127)) (wrap64 (1 + t142))).bind fun bt144 => ((impl_LeastApart.f k3 (wrap64 (1 + t126)) (wrap64 (1 + t127)) (wrap64 (1 + t142))).bind fun bt146 => (if bt144.2 = true then (laws_FnInterleaved.j3 k3 (wrap64 (1 + t126)) (wrap64 (1 + t127)) x13_3 (wrap64 (1 + t142)) t143 bt144.1 bt146.1 (bt146.2 != (decide ((wrap64 (1 + t142)) > 1)))) else (laws_FnInterleaved.j3 k3 (wrap64 (1 + t126)) (wrap64 (1 + t127)) x13_3 (wrap64 (1 + t142)) t143 bt144.1 bt146.1 true)))) = some r := H
                          have A44 := Aside0.mk A440
                          clear A440
                          replace H := Option.bind_eq_some_iff.mp H
                          obtain ⟨⟨t144, t145⟩, A450, H⟩ := H
                          replace H : ((impl_LeastApart.f k3 (wrap64 (1 + t126)) (wrap64 (1 + t127)) (wrap64 (1 + t142))).bind fun bt146 => (if t145 = true then (laws_FnInterleaved.j3 k3 (wrap64 (1 + t126)) (wrap64 (1 + t127)) x13_3 (wrap64 (1 + t142)) t143 t144 bt146.1 (bt146.2 != (decide ((wrap64 (1 + t142)) > 1)))) else (laws_FnInterleaved.j3 k3 (wrap64 (1 + t126)) (wrap64 (1 + t127)) x13_3 (wrap64 (1 + t142)) t143 t144 bt146.1 true))) = some r := H
                          have A45 := Aside0.mk A450
                          clear A450
                          replace H := Option.bind_eq_some_iff.mp H
                          obtain ⟨⟨t146, t147⟩, A460, H⟩ := H
                          replace H : (if t145 = true then (laws_FnInterleaved.j3 k3 (wrap64 (1 + t126)) (wrap64 (1 + t127)) x13_3 (wrap64 (1 + t142)) t143 t144 t146 (t147 != (decide ((wrap64 (1 + t142)) > 1)))) else (laws_FnInterleaved.j3 k3 (wrap64 (1 + t126)) (wrap64 (1 + t127)) x13_3 (wrap64 (1 + t142)) t143 t144 t146 true)) = some r := H
                          have A46 := Aside0.mk A460
                          clear A460
                          have HC47 := Aside0.mk H
                          clear H
                          go_upto_region 26 with (first | (go_at_call 18; (with_reducible refine (laws_r8At.calls _ _ l1 0 (wrap64 ((wrap64 (1 + t126)) * (wrap64 (1 + t127)))) t142 _ ?side1 ?side2 A43.out).mono ?_); (case side1 => repeat (first | exact (Kd.C_below HR1.out HB.out) | (with_reducible refine Kd.C_alloc ?_ _) | (with_reducible refine Kd.C_drewN ?_ _) | (with_reducible refine Kd.C_drew ?_))); (case side2 => exact HC1.out); rintro e w' ⟨rfl, ⟨nd, rfl⟩⟩; (try first | exact ⟨rfl, _, World.drewN_drewN _ _ _⟩ | exact ⟨rfl, _, Eq.trans (World.drewN_drewN _ _ _) (congrArg (World.drewN _) (Nat.add_assoc _ _ _))⟩)) | (go_at_call 18; (with_reducible refine (laws_r8At.calls _ _ l1 1 (wrap64 ((wrap64 ((wrap64 ((wrap64 (1 + t126)) * (wrap64 (1 + t127)))) - (wrap64 (1 + t142)))) + 1)) t143 _ ?side1 ?side2 A44.out).mono ?_); (case side1 => repeat (first | exact (Kd.C_below HR1.out (by repeat (first | (with_reducible first | exact HB.out | apply below_alloc | apply pw_below_drewN | apply below_drew1) | exact HB.out))) | (with_reducible refine Kd.C_alloc ?_ _) | (with_reducible refine Kd.C_drewN ?_ _) | (with_reducible refine Kd.C_drew ?_))); (case side2 => exact HC1.out); rintro e w' ⟨rfl, ⟨nd, rfl⟩⟩; (try first | exact ⟨rfl, _, World.drewN_drewN _ _ _⟩ | exact ⟨rfl, _, Eq.trans (World.drewN_drewN _ _ _) (congrArg (World.drewN _) (Nat.add_assoc _ _ _))⟩)) | (go_at_call 21; (with_reducible refine (impl_MostInRow.calls (wrap64 (1 + t126)) (wrap64 (1 + t127)) (wrap64 (1 + t142)) t144 t145 _ A45.out).mono ?_); rintro e w' ⟨rfl, ⟨nd, rfl⟩⟩; (try first | exact ⟨rfl, _, World.drewN_drewN _ _ _⟩ | exact ⟨rfl, _, Eq.trans (World.drewN_drewN _ _ _) (congrArg (World.drewN _) (Nat.add_assoc _ _ _))⟩)) | (go_at_call 22; (with_reducible refine (impl_LeastApart.calls k3 (wrap64 (1 + t126)) (wrap64 (1 + t127)) (wrap64 (1 + t142)) t146 t147 _ A46.out).mono ?_); rintro e w48 ⟨rfl, hb⟩; have n0_ := Aside0.mk (Kd.R_below (by (with_reducible repeat (first | apply Kd.R_alloc | apply Kd.R_drewN | apply Kd.R_drew)); exact HO_13.out) hb); have n1_ := Aside0.mk (below_step (by repeat (first | (with_reducible first | exact HB.out | apply below_alloc | apply pw_below_drewN | apply below_drew1) | exact HB.out)) hb); clear HO_13; clear HB; have HO_13 := n0_; have HB := n1_; clear n0_ n1_; (try clear hb); (try clear hb2); (try clear hk); (try clear hi)))
                          repeat (go_quiet (first | (go_at_call 18; (with_reducible refine (laws_r8At.calls _ _ l1 0 (wrap64 ((wrap64 (1 + t126)) * (wrap64 (1 + t127)))) t142 _ ?side1 ?side2 A43.out).mono ?_); (case side1 => repeat (first | exact (Kd.C_below HR1.out HB.out) | (with_reducible refine Kd.C_alloc ?_ _) | (with_reducible refine Kd.C_drewN ?_ _) | (with_reducible refine Kd.C_drew ?_))); (case side2 => exact HC1.out); rintro e w' ⟨rfl, ⟨nd, rfl⟩⟩; (try first | exact ⟨rfl, _, World.drewN_drewN _ _ _⟩ | exact ⟨rfl, _, Eq.trans (World.drewN_drewN _ _ _) (congrArg (World.drewN _) (Nat.add_assoc _ _ _))⟩)) | (go_at_call 18; (with_reducible refine (laws_r8At.calls _ _ l1 1 (wrap64 ((wrap64 ((wrap64 ((wrap64 (1 + t126)) * (wrap64 (1 + t127)))) - (wrap64 (1 + t142)))) + 1)) t143 _ ?side1 ?side2 A44.out).mono ?_); (case side1 => repeat (first | exact (Kd.C_below HR1.out (by repeat (first | (with_reducible first | exact HB.out | apply below_alloc | apply pw_below_drewN | apply below_drew1) | exact HB.out))) | (with_reducible refine Kd.C_alloc ?_ _) | (with_reducible refine Kd.C_drewN ?_ _) | (with_reducible refine Kd.C_drew ?_))); (case side2 => exact HC1.out); rintro e w' ⟨rfl, ⟨nd, rfl⟩⟩; (try first | exact ⟨rfl, _, World.drewN_drewN _ _ _⟩ | exact ⟨rfl, _, Eq.trans (World.drewN_drewN _ _ _) (congrArg (World.drewN _) (Nat.add_assoc _ _ _))⟩)) | (go_at_call 21; (with_reducible refine (impl_MostInRow.calls (wrap64 (1 + t126)) (wrap64 (1 + t127)) (wrap64 (1 + t142)) t144 t145 _ A45.out).mono ?_); rintro e w' ⟨rfl, ⟨nd, rfl⟩⟩; (try first | exact ⟨rfl, _, World.drewN_drewN _ _ _⟩ | exact ⟨rfl, _, Eq.trans (World.drewN_drewN _ _ _) (congrArg (World.drewN _) (Nat.add_assoc _ _ _))⟩)) | (go_at_call 22; (with_reducible refine (impl_LeastApart.calls k3 (wrap64 (1 + t126)) (wrap64 (1 + t127)) (wrap64 (1 + t142)) t146 t147 _ A46.out).mono ?_); rintro e w48 ⟨rfl, hb⟩; have n0_ := Aside0.mk (Kd.R_below (by (with_reducible repeat (first | apply Kd.R_alloc | apply Kd.R_drewN | apply Kd.R_drew)); exact HO_13.out) hb); have n1_ := Aside0.mk (below_step (by repeat (first | (with_reducible first | exact HB.out | apply below_alloc | apply pw_below_drewN | apply below_drew1) | exact HB.out)) hb); clear HO_13; clear HB; have HO_13 := n0_; have HB := n1_; clear n0_ n1_; (try clear hb); (try clear hb2); (try clear hk); (try clear hi))); go_upto_region 26 with (first | (go_at_call 18; (with_reducible refine (laws_r8At.calls _ _ l1 0 (wrap64 ((wrap64 (1 + t126)) * (wrap64 (1 + t127)))) t142 _ ?side1 ?side2 A43.out).mono ?_); (case side1 => repeat (first | exact (Kd.C_below HR1.out HB.out) | (with_reducible refine Kd.C_alloc ?_ _) | (with_reducible refine Kd.C_drewN ?_ _) | (with_reducible refine Kd.C_drew ?_))); (case side2 => exact HC1.out); rintro e w' ⟨rfl, ⟨nd, rfl⟩⟩; (try first | exact ⟨rfl, _, World.drewN_drewN _ _ _⟩ | exact ⟨rfl, _, Eq.trans (World.drewN_drewN _ _ _) (congrArg (World.drewN _) (Nat.add_assoc _ _ _))⟩)) | (go_at_call 18; (with_reducible refine (laws_r8At.calls _ _ l1 1 (wrap64 ((wrap64 ((wrap64 ((wrap64 (1 + t126)) * (wrap64 (1 + t127)))) - (wrap64 (1 + t142)))) + 1)) t143 _ ?side1 ?side2 A44.out).mono ?_); (case side1 => repeat (first | exact (Kd.C_below HR1.out (by repeat (first | (with_reducible first | exact HB.out | apply below_alloc | apply pw_below_drewN | apply below_drew1) | exact HB.out))) | (with_reducible refine Kd.C_alloc ?_ _) | (with_reducible refine Kd.C_drewN ?_ _) | (with_reducible refine Kd.C_drew ?_))); (case side2 => exact HC1.out); rintro e w' ⟨rfl, ⟨nd, rfl⟩⟩; (try first | exact ⟨rfl, _, World.drewN_drewN _ _ _⟩ | exact ⟨rfl, _, Eq.trans (World.drewN_drewN _ _ _) (congrArg (World.drewN _) (Nat.add_assoc _ _ _))⟩)) | (go_at_call 21; (with_reducible refine (impl_MostInRow.calls (wrap64 (1 + t126)) (wrap64 (1 + t127)) (wrap64 (1 + t142)) t144 t145 _ A45.out).mono ?_); rintro e w' ⟨rfl, ⟨nd, rfl⟩⟩; (try first | exact ⟨rfl, _, World.drewN_drewN _ _ _⟩ | exact ⟨rfl, _, Eq.trans (World.drewN_drewN _ _ _) (congrArg (World.drewN _) (Nat.add_assoc _ _ _))⟩)) | (go_at_call 22; (with_reducible refine (impl_LeastApart.calls k3 (wrap64 (1 + t126)) (wrap64 (1 + t127)) (wrap64 (1 + t142)) t146 t147 _ A46.out).mono ?_); rintro e w48 ⟨rfl, hb⟩; have n0_ := Aside0.mk (Kd.R_below (by (with_reducible repeat (first | apply Kd.R_alloc | apply Kd.R_drewN | apply Kd.R_drew)); exact HO_13.out) hb); have n1_ := Aside0.mk (below_step (by repeat (first | (with_reducible first | exact HB.out | apply below_alloc | apply pw_below_drewN | apply below_drew1) | exact HB.out)) hb); clear HO_13; clear HB; have HO_13 := n0_; have HB := n1_; clear n0_ n1_; (try clear hb); (try clear hb2); (try clear hk); (try clear hi))))
                          (try simp only [Act.put, List.setIfInBounds_toArray, List.set_cons_zero, List.set_cons_succ])
                          go_cut [163] (fun v163 wc => ∃ (kq : Nat) (x163_46 : Bool), v163 = .bool x163_46 ∧ Aside0 (laws_FnInterleaved.j3 kq (wrap64 (1 + t126)) (wrap64 (1 + t127)) x13_3 (wrap64 (1 + t142)) t143 t144 t146 x163_46 = some r) ∧ Aside0 (kq ≤ k3) ∧ Aside0 (Kd.R (Kd.int .i64) 2 wc w.heap.size (fun _ => True) v137 x13_3) ∧ Aside0 (Below w.heap.size w wc))
                          case first =>
                            have H := HC47.out
                            clear HC47
                            by_cases c49 : t145 = true
                            · subst c49
                              have H1 : (laws_FnInterleaved.j3 k3 (wrap64 (1 + t126)) (wrap64 (1 + t127)) x13_3 (wrap64 (1 + t142)) t143 t144 t146 (t147 != (decide ((wrap64 (1 + t142)) > 1)))) = some r := by rw [if_pos rfl] at H; exact H
                              clear H
                              have H := H1
                              clear H1
                              have H' := Aside0.mk H
                              clear H
                              go_wp2
                              repeat (go_quiet (fail); try go_wp2)
                              go_meet
                              case rel => exact ⟨_, ((t147 != (decide ((wrap64 (1 + t142)) > 1)))), (by first | rfl | (simp; done) | (simp [*]; done)), H', ⟨by have := HK1.out; have := HJ14.out; have := HK3.out; first | omega | exact Nat.le_refl _⟩, ⟨by (with_reducible repeat (first | apply Kd.R_alloc | apply Kd.R_drewN | apply Kd.R_drew)); exact HO_13.out⟩, ⟨by repeat (first | (with_reducible first | exact HB.out | apply below_alloc | apply pw_below_drewN | apply below_drew1) | exact HB.out)⟩⟩
                            · replace c49 := Bool.eq_false_iff.mpr c49
                              subst c49
                              have H1 : (laws_FnInterleaved.j3 k3 (wrap64 (1 + t126)) (wrap64 (1 + t127)) x13_3 (wrap64 (1 + t142)) t143 t144 t146 true) = some r := by rw [if_neg (show ¬ (false = true) by decide)] at H; exact H
                              clear H
                              have H := H1
                              clear H1
                              have H' := Aside0.mk H
                              clear H
                              go_wp2
                              repeat (go_quiet (fail); try go_wp2)
                              go_meet
                              case rel => exact ⟨_, (true), (by first | rfl | (simp; done) | (simp [*]; done)), H', ⟨by have := HK1.out; have := HJ14.out; have := HK3.out; first | omega | exact Nat.le_refl _⟩, ⟨by (with_reducible repeat (first | apply Kd.R_alloc | apply Kd.R_drewN | apply Kd.R_drew)); exact HO_13.out⟩, ⟨by repeat (first | (with_reducible first | exact HB.out | apply below_alloc | apply pw_below_drewN | apply below_drew1) | exact HB.out)⟩⟩
                          case rest =>
                            clear HC47
                            try clear c1
                            try clear hcv1
                            try clear c2
                            try clear p2
                            try clear c3
                            try clear p3
                            try clear q3
                            try clear hx3
                            try clear c4
                            try clear p4
                            try clear q4
                            try clear hx4
                            try clear hf4
                            try clear p6
                            try clear c7
                            try clear c7b0
                            try clear c9
                            try clear c9b0
                            try clear c9b1
                            try clear c9b2
                            try clear hcv12
                            try clear c18
                            try clear c19
                            try clear c20
                            try clear c20b0
                            try clear c20b1
                            try clear c21
                            try clear c23
                            try clear c23b0
                            try clear c23b1
                            try clear c24
                            try clear c24b0
                            try clear c24b1
                            try clear c27
                            try clear c27b0
                            try clear c29
                            try clear c30
                            try clear c30b0
                            try clear c31
                            try clear c31b0
                            try clear c32
                            try clear c32b0
                            try clear c33
                            try clear c33b0
                            try clear p34
                            try clear q34
                            try clear hx34
                            try clear c35
                            try clear c35b0
                            try clear c36
                            try clear c36b0
                            try clear p37
                            try clear q37
                            try clear hx37
                            try clear c38
                            try clear c38b0
                            try clear c38b1
                            try clear c39
                            try clear c39b0
                            try clear p40
                            try clear q40
                            try clear hx40
                            try clear hf40
                            try clear c49
                            try clear hx40_0
                            try clear p2
                            try clear p34
                            try clear p37
                            try clear p40
                            try clear p6
                            try clear q34
                            try clear q37
                            try clear q40
                            obtain ⟨kq, x163_46, rfl, HA, HJ46, HO_13, HB⟩ := hcut
                            cases kq with
                            | zero => exact absurd HA.out (by simp [laws_FnInterleaved.j3])
                            | succ kj46 =>
                              have H := HA.out
                              clear HA
                              simp only [laws_FnInterleaved.j3] at H
                              by_cases c50 : x163_46 = true
                              · subst c50
                                have H1 : (some false) = some r := by rw [if_pos rfl] at H; exact H
                                clear H
                                have H := H1
                                clear H1
                                obtain rfl := Option.some.inj H
                                go_wp2
                                repeat (go_quiet (fail); try go_wp2)
                                go_ret
                                exact ⟨by first | rfl | (simp [errW_none, errW_some] <;> rfl) | (simp only [← hji22]; first | rfl | (simp [errW_none, errW_some] <;> rfl)) | (simp [*, errW_none, errW_some] <;> rfl), by repeat (first | (with_reducible first | exact HB.out | apply below_alloc | apply pw_below_drewN | apply below_drew1) | exact HB.out)⟩
                              · replace c50 := Bool.eq_false_iff.mpr c50
                                subst c50
                                have H1 : (if 0 ≤ (wrap64 (1 + t126)) then (if ((wrap64 (1 + t126)) : Int).toNat ≤ 35184372088832 then (laws_FnInterleaved.l2 kj46 (wrap64 (1 + t127)) x13_3 (wrap64 (1 + t142)) t143 t144 t146 (List.replicate ((wrap64 (1 + t126)) : Int).toNat 0) t143) else (none)) else (none)) = some r := by rw [if_neg (show ¬ (false = true) by decide)] at H; exact H
                                clear H
                                have H := H1
                                clear H1
                                obtain ⟨ji51, hji51⟩ : ∃ j_ : Int, (wrap64 (1 + t126)) = j_ := ⟨_, rfl⟩
                                replace H : (if 0 ≤ (ji51) then (if ((ji51) : Int).toNat ≤ 35184372088832 then (laws_FnInterleaved.l2 kj46 (wrap64 (1 + t127)) x13_3 (wrap64 (1 + t142)) t143 t144 t146 (List.replicate ((ji51) : Int).toNat 0) t143) else (none)) else (none)) = some r := by first | (rw [hji51] at H; exact H) | (simp only [hji51] at H ⊢; exact H)
                                (try rw [hji51] at c7b0)
                                (try rw [hji51] at c27b0)
                                have hji51w : (IntKind.i64.wrap (1 + t126)) = ji51 := (i64_w _).trans hji51
                                (try rw [hji51])
                                by_cases c52 : 0 ≤ (ji51)
                                · rw [if_pos c52] at H
                                  have c52b0 := eq_true c52
                                  have c52b1 : decide (0 ≤ (ji51)) = true := decide_eq_true c52
                                  clear c52
                                  by_cases c53 : ((ji51) : Int).toNat ≤ 35184372088832
                                  · rw [if_pos c53] at H
                                    have c53b0 := eq_true c53
                                    have c53b1 : decide (((ji51) : Int).toNat ≤ 35184372088832) = true := decide_eq_true c53
                                    clear c53
                                    obtain ⟨y148, hy148⟩ : ∃ y_ : List Int, y_ = (List.replicate ((ji51) : Int).toNat 0) := ⟨_, rfl⟩
                                    replace H : (laws_FnInterleaved.l2 kj46 (wrap64 (1 + t127)) x13_3 (wrap64 (1 + t142)) t143 t144 t146 y148 t143) = some r := by first | (rw [hy148]; with_reducible exact H) | (have H2_ := (Option.bind_some _ _).symm.trans H; rw [hy148]; with_reducible exact H2_) | (have H2_ := (Option.bind_some _ _).symm.trans H; with_reducible exact H2_) | with_reducible exact H | (rw [hy148]; exact H) | exact H
                                    have Ny148 := Aside0.mk hy148
                                    clear hy148
                                    have H' := Aside0.mk H
                                    clear H
                                    go_wp2_with (first | ((with_reducible refine gate_dst (N := 165) rfl ?_); (try (refine gate_guard (by rfl) ?_; dsimp only)); refine Kd.R_make (Kd.int .i64) _ 2 rfl (N := 165) rfl 28 _ _ rfl (ji51) rfl rfl Tryd.underlying28 (.int .i64 0) 8 info2 rfl (by decide) (by omega) 0 (ok := fun _ => True) (okp := fun _ => True) rfl (fun _ hk => hk) trivial (of_decide_eq_true (by first | (with_reducible assumption) | assumption)) (Nat.le_trans (Nat.mul_le_mul_right _ (of_decide_eq_true (by first | (with_reducible assumption) | assumption) : (ji51).toNat ≤ 35184372088832)) (by omega)) (Below.refl _ _) (Nat.le_refl _) ?_; intro v149 w54 ho55 hb hg_ hnew_; clear hg_ hnew_; (first | rw [← Ny148.out] at ho55 | (simp only [Int.reduceToNat] at ho55; rw [← Ny148.out] at ho55)); have n0_ := Aside0.mk (Kd.R_elder' (by (with_reducible repeat (first | apply Kd.R_alloc | apply Kd.R_drewN | apply Kd.R_drew)); exact HO_13.out) (Kd.R_base ho55) hb); have n1_ := Aside0.mk (Kd.R_lower (Kd.R_new' ho55 (Kd.R_lt (by (with_reducible repeat (first | apply Kd.R_alloc | apply Kd.R_drewN | apply Kd.R_drew)); exact HO_13.out))) (below_size (by repeat (first | (with_reducible first | exact HB.out | apply below_alloc | apply pw_below_drewN | apply below_drew1) | exact HB.out)))); have n2_ := Aside0.mk (below_step (by repeat (first | (with_reducible first | exact HB.out | apply below_alloc | apply pw_below_drewN | apply below_drew1) | exact HB.out)) hb); clear HO_13; clear HB; have HO_13 := n0_; have HO150 := n1_; have HB := n2_; clear n0_ n1_ n2_; clear hb ho55))
                                    repeat (go_quiet (first | ((with_reducible refine gate_dst (N := 165) rfl ?_); (try (refine gate_guard (by rfl) ?_; dsimp only)); refine Kd.R_make (Kd.int .i64) _ 2 rfl (N := 165) rfl 28 _ _ rfl (ji51) rfl rfl Tryd.underlying28 (.int .i64 0) 8 info2 rfl (by decide) (by omega) 0 (ok := fun _ => True) (okp := fun _ => True) rfl (fun _ hk => hk) trivial (of_decide_eq_true (by first | (with_reducible assumption) | assumption)) (Nat.le_trans (Nat.mul_le_mul_right _ (of_decide_eq_true (by first | (with_reducible assumption) | assumption) : (ji51).toNat ≤ 35184372088832)) (by omega)) (Below.refl _ _) (Nat.le_refl _) ?_; intro v149 w54 ho55 hb hg_ hnew_; clear hg_ hnew_; (first | rw [← Ny148.out] at ho55 | (simp only [Int.reduceToNat] at ho55; rw [← Ny148.out] at ho55)); have n0_ := Aside0.mk (Kd.R_elder' (by (with_reducible repeat (first | apply Kd.R_alloc | apply Kd.R_drewN | apply Kd.R_drew)); exact HO_13.out) (Kd.R_base ho55) hb); have n1_ := Aside0.mk (Kd.R_lower (Kd.R_new' ho55 (Kd.R_lt (by (with_reducible repeat (first | apply Kd.R_alloc | apply Kd.R_drewN | apply Kd.R_drew)); exact HO_13.out))) (below_size (by repeat (first | (with_reducible first | exact HB.out | apply below_alloc | apply pw_below_drewN | apply below_drew1) | exact HB.out)))); have n2_ := Aside0.mk (below_step (by repeat (first | (with_reducible first | exact HB.out | apply below_alloc | apply pw_below_drewN | apply below_drew1) | exact HB.out)) hb); clear HO_13; clear HB; have HO_13 := n0_; have HO150 := n1_; have HB := n2_; clear n0_ n1_ n2_; clear hb ho55)); try go_wp2_with (first | ((with_reducible refine gate_dst (N := 165) rfl ?_); (try (refine gate_guard (by rfl) ?_; dsimp only)); refine Kd.R_make (Kd.int .i64) _ 2 rfl (N := 165) rfl 28 _ _ rfl (ji51) rfl rfl Tryd.underlying28 (.int .i64 0) 8 info2 rfl (by decide) (by omega) 0 (ok := fun _ => True) (okp := fun _ => True) rfl (fun _ hk => hk) trivial (of_decide_eq_true (by first | (with_reducible assumption) | assumption)) (Nat.le_trans (Nat.mul_le_mul_right _ (of_decide_eq_true (by first | (with_reducible assumption) | assumption) : (ji51).toNat ≤ 35184372088832)) (by omega)) (Below.refl _ _) (Nat.le_refl _) ?_; intro v149 w54 ho55 hb hg_ hnew_; clear hg_ hnew_; (first | rw [← Ny148.out] at ho55 | (simp only [Int.reduceToNat] at ho55; rw [← Ny148.out] at ho55)); have n0_ := Aside0.mk (Kd.R_elder' (by (with_reducible repeat (first | apply Kd.R_alloc | apply Kd.R_drewN | apply Kd.R_drew)); exact HO_13.out) (Kd.R_base ho55) hb); have n1_ := Aside0.mk (Kd.R_lower (Kd.R_new' ho55 (Kd.R_lt (by (with_reducible repeat (first | apply Kd.R_alloc | apply Kd.R_drewN | apply Kd.R_drew)); exact HO_13.out))) (below_size (by repeat (first | (with_reducible first | exact HB.out | apply below_alloc | apply pw_below_drewN | apply below_drew1) | exact HB.out)))); have n2_ := Aside0.mk (below_step (by repeat (first | (with_reducible first | exact HB.out | apply below_alloc | apply pw_below_drewN | apply below_drew1) | exact HB.out)) hb); clear HO_13; clear HB; have HO_13 := n0_; have HO150 := n1_; have HB := n2_; clear n0_ n1_ n2_; clear hb ho55)))
                                    go_loopg [24] kj46 (fun kq v24 w' => ∃ (x23_5 : List Int) (x24_5 : Int), v24 = .int .i64 x24_5 ∧ Aside0 (laws_FnInterleaved.l2 kq (wrap64 (1 + t127)) x13_3 (wrap64 (1 + t142)) t143 t144 t146 x23_5 x24_5 = some r) ∧ Aside0 (kq ≤ kj46) ∧ Aside0 (Kd.R (Kd.int .i64) 2 w' w.heap.size (fun k_ => some k_ ≠ (v149 : Value).ownBlock) v137 x13_3) ∧ Aside0 (Kd.R (Kd.int .i64) 2 w' w.heap.size (fun k_ => some k_ ≠ (v137 : Value).ownBlock) v149 x23_5) ∧ Aside0 (Below w.heap.size w w'))
                                    case atStart => exact ⟨(y148), (t143), (by first | rfl | (simp; done) | (simp [*]; done)), H', ⟨Nat.le_refl _⟩, ⟨by (with_reducible repeat (first | apply Kd.R_alloc | apply Kd.R_drewN | apply Kd.R_drew)); exact Kd.R_mono HO_13.out (fun _ hk => hk.2)⟩, ⟨by (with_reducible repeat (first | apply Kd.R_alloc | apply Kd.R_drewN | apply Kd.R_drew)); exact Kd.R_mono HO150.out (fun _ hk => hk.2)⟩, ⟨by repeat (first | (with_reducible first | exact HB.out | apply below_alloc | apply pw_below_drewN | apply below_drew1) | exact HB.out)⟩⟩
                                    case round =>
                                      clear H'
                                      try clear c1
                                      try clear hcv1
                                      try clear c2
                                      try clear p2
                                      try clear c3
                                      try clear p3
                                      try clear q3
                                      try clear hx3
                                      try clear c4
                                      try clear p4
                                      try clear q4
                                      try clear hx4
                                      try clear hf4
                                      try clear c5
                                      try clear p6
                                      try clear c7
                                      try clear c7b0
                                      try clear c9
                                      try clear c9b0
                                      try clear c9b1
                                      try clear c9b2
                                      try clear hcv12
                                      try clear c18
                                      try clear c19
                                      try clear c20
                                      try clear c20b0
                                      try clear c20b1
                                      try clear c21
                                      try clear c23
                                      try clear c23b0
                                      try clear c23b1
                                      try clear c24
                                      try clear c24b0
                                      try clear c24b1
                                      try clear c27
                                      try clear c27b0
                                      try clear c29
                                      try clear c30
                                      try clear c30b0
                                      try clear c31
                                      try clear c31b0
                                      try clear c32
                                      try clear c32b0
                                      try clear c33
                                      try clear c33b0
                                      try clear p34
                                      try clear q34
                                      try clear hx34
                                      try clear c35
                                      try clear c35b0
                                      try clear c36
                                      try clear c36b0
                                      try clear p37
                                      try clear q37
                                      try clear hx37
                                      try clear c38
                                      try clear c38b0
                                      try clear c38b1
                                      try clear c39
                                      try clear c39b0
                                      try clear p40
                                      try clear q40
                                      try clear hx40
                                      try clear hf40
                                      try clear c49
                                      try clear c50
                                      try clear c52
                                      try clear c52b0
                                      try clear c52b1
                                      try clear c53
                                      try clear c53b0
                                      try clear c53b1
                                      try clear hx40_0
                                      try clear p2
                                      try clear p3
                                      try clear p34
                                      try clear p37
                                      try clear p4
                                      try clear p40
                                      try clear p6
                                      try clear q3
                                      try clear q34
                                      try clear q37
                                      try clear q4
                                      try clear q40
                                      obtain ⟨x23_5, x24_5, rfl, HA, HK5, HO_13, HO_23, HB⟩ := hrel
                                      cases gk with
                                      | zero => exact absurd HA.out (by simp [laws_FnInterleaved.l2])
                                      | succ k5 =>
                                        have H := HA.out
                                        clear HA
                                        simp only [laws_FnInterleaved.l2] at H
                                        by_cases c56 : x24_5 < (wrap64 (t143 + (wrap64 (1 + t142))))
                                        · rw [if_pos c56] at H
                                          have c56b0 : decide (x24_5 < (wrap64 (t143 + (wrap64 (1 + t142))))) = true := decide_eq_true c56
                                          clear c56
                                          by_cases c57 : 0 ≤ x24_5
                                          · rw [if_pos c57] at H
                                            have c57b0 : decide (0 ≤ x24_5) = true := decide_eq_true c57
                                            clear c57
                                            by_cases c58 : x24_5 < (x13_3.length : Int)
                                            · rw [if_pos c58] at H
                                              have c58b0 : decide (x24_5 < (x13_3.length : Int)) = true := decide_eq_true c58
                                              clear c58
                                              by_cases c59 : (wrap64 (1 + t127)) = 0
                                              · rw [if_pos c59] at H
                                                exact absurd H (by simp)
                                              · rw [if_neg c59] at H
                                                have c59b0 : ((wrap64 (1 + t127)) == 0) = false := beq_eq_false_iff_ne.mpr c59
                                                have c59b1 : ((wrap64 (1 + t127)) != 0) = true := bne_iff_ne.mpr c59
                                                obtain ⟨ji60, hji60⟩ : ∃ j_ : Int, (wrap64 (Int.tdiv (rd x13_3 x24_5) (wrap64 (1 + t127)))) = j_ := ⟨_, rfl⟩
                                                replace H : (if 0 ≤ (ji60) then (if (ji60) < (x23_5.length : Int) then ((some (x23_5.set ((ji60) : Int).toNat (wrap64 ((rd x23_5 (ji60)) + 1)) : List Int)).bind fun y153 => (if (rd y153 (ji60)) > t144 then (some false) else (laws_FnInterleaved.l3 k5 (wrap64 (1 + t127)) x13_3 (wrap64 (1 + t142)) t143 t144 t146 y153 x24_5 t143))) else (none)) else (none)) = some r := by first | (rw [hji60] at H; exact H) | (simp only [hji60] at H ⊢; exact H)
                                                have hji60w : (IntKind.i64.wrap (Int.tdiv (rd x13_3 x24_5) (wrap64 (1 + t127)))) = ji60 := (i64_w _).trans hji60
                                                (try rw [hji60])
                                                by_cases c61 : 0 ≤ (ji60)
                                                · rw [if_pos c61] at H
                                                  have c61b0 : decide (0 ≤ (ji60)) = true := decide_eq_true c61
                                                  clear c61
                                                  by_cases c62 : (ji60) < (x23_5.length : Int)
                                                  · rw [if_pos c62] at H
                                                    have c62b0 : decide ((ji60) < (x23_5.length : Int)) = true := decide_eq_true c62
                                                    clear c62
                                                    obtain ⟨y153, hy153⟩ : ∃ y_ : List Int, y_ = (x23_5.set ((ji60) : Int).toNat (wrap64 ((rd x23_5 (ji60)) + 1))) := ⟨_, rfl⟩
                                                    replace H : (if (rd y153 (ji60)) > t144 then (some false) else (laws_FnInterleaved.l3 k5 (wrap64 (1 + t127)) x13_3 (wrap64 (1 + t142)) t143 t144 t146 y153 x24_5 t143)) = some r := by first | (rw [hy153]; with_reducible exact H) | (have H2_ := (Option.bind_some _ _).symm.trans H; rw [hy153]; with_reducible exact H2_) | (have H2_ := (Option.bind_some _ _).symm.trans H; with_reducible exact H2_) | with_reducible exact H | (rw [hy153]; exact H) | exact H
                                                    have Ny153 := Aside0.mk hy153
                                                    clear hy153
                                                    by_cases c64 : (rd y153 (ji60)) > t144
                                                    · rw [if_pos c64] at H
                                                      have c64b0 : decide (t144 < (rd y153 (ji60))) = true := decide_eq_true c64
                                                      clear c64
                                                      obtain rfl := Option.some.inj H
                                                      obtain ⟨Ao65, co65, eo65⟩ := Kd.R_slice HO_13.out
                                                      subst eo65
                                                      have p151 : 0 ≤ (x24_5 : Int) := of_decide_eq_true (by first | (with_reducible assumption) | assumption)
                                                      have q151 : x24_5 < (x13_3.length : Int) := of_decide_eq_true (by first | (with_reducible assumption) | assumption)
                                                      obtain ⟨ad151, e151, hx151_0⟩ := Kd.at_int (Kd.R_reads' HO_13.out).2.2 x24_5 p151 q151
                                                      cases e151
                                                      replace p151 := eq_true p151
                                                      replace q151 := eq_true q151
                                                      obtain ⟨Ao66, co66, eo66⟩ := Kd.R_slice HO_23.out
                                                      subst eo66
                                                      have p152 : 0 ≤ ((ji60) : Int) := of_decide_eq_true (by first | (with_reducible assumption) | assumption)
                                                      have q152 : (ji60) < (x23_5.length : Int) := of_decide_eq_true (by first | (with_reducible assumption) | assumption)
                                                      obtain ⟨ad152, e152, hx152_0⟩ := Kd.at_int (Kd.R_reads' HO_23.out).2.2 (ji60) p152 q152
                                                      cases e152
                                                      replace p152 := eq_true p152
                                                      replace q152 := eq_true q152
                                                      have p63 : 0 ≤ ((ji60) : Int) := of_decide_eq_true (by first | (with_reducible assumption) | assumption)
                                                      have q63 : ((ji60) : Int) < ((x23_5.length : Int) : Int) := of_decide_eq_true (by first | (with_reducible assumption) | assumption)
                                                      obtain ⟨go63, co63, eo63, gb63, gl63, cl63, HG63⟩ := Kd.R_form HO_23.out (by omega)
                                                      (first | cases eo63 | (injection eo63 with ea_ en_ ec_; (first | subst ea_ | (injection ea_ with ea_; subst ea_)); subst ec_; clear en_))
                                                      have GB63 := Aside0.mk gb63
                                                      have GG63 := Aside0.mk HG63
                                                      clear gb63 gl63 HG63
                                                      (first | simp only [add_plain] at hx152_0 | skip)
                                                      obtain ⟨hx63_0, hf63_0⟩ := Kd.R_celln 0 HO_23.out ((ji60) : Int) p63 q63
                                                      replace p63 := eq_true p63
                                                      replace q63 := eq_true q63
                                                      have HP67 := Kd.R_putg HO_23.out ((ji60) : Int) (wrap64 ((rd x23_5 (ji60)) + 1))
                                                      go_wp2_with (first | ((with_reducible refine gate_store (t := 2) (p := 184) rfl ?_); (try (rw [drewN_self wr]; generalize hq_ : World.drewN wr _ = wr; have n0_ := Aside0.mk (Kd.R_at hq_ HO_13.out); have n1_ := Aside0.mk (Kd.R_at hq_ HO_23.out); have n2_ := Aside0.mk (below_at hq_ HB.out); clear hq_ HO_13 HO_23 HB; have HO_13 := n0_; have HO_23 := n1_; have HB := n2_; clear n0_ n1_ n2_; (try (have HP67 := Kd.R_putg HO_23.out ((ji60) : Int) (wrap64 ((rd x23_5 (ji60)) + 1)))))); refine store_event (t := 2) (p := 184) (v := ?vo_w68) (w1 := (wr.setCell ⟨go63, ((ji60) : Int).toNat, none⟩ (.int .i64 (wrap64 ((rd x23_5 (ji60)) + 1))))) ?hg ?ho ?hn ?hr ?_; (case ho => rfl); (case hg => rfl); (case hn => rfl); (case hr => first | (go_simp; done) | (go_simp; rfl)); intro w68 hw; have hg : wr.grownBy w68 (some go63) := (by rw [hw]; exact HP67.2); have hp_ : Kd.R (Kd.int .i64) 2 w68 w.heap.size (fun k_ => some k_ ≠ (.slice (some ad151) x13_3.length co65 : Value).ownBlock) (.slice (some ⟨go63, 0, none⟩) x23_5.length co66) y153 := (by rw [hw, Ny153.out]; exact HP67.1); clear HP67; have n0_ := Aside0.mk (Kd.R_after (v := (.slice (some ⟨go63, 0, none⟩) x23_5.length co66)) (v1 := (.slice (some ⟨go63, 0, none⟩) x23_5.length co66)) (ok := (fun _ => True)) (by (with_reducible repeat (first | apply Kd.R_alloc | apply Kd.R_drewN | apply Kd.R_drew)); exact Kd.R_mono HO_13.out (fun _ hk => ⟨trivial, hk⟩)) hg (.inl rfl)); have n1_ := Aside0.mk (hp_); have n2_ := Aside0.mk ((by rw [hw]; exact below_set (HB.out) GB63.out : Below w.heap.size w w68)); clear HO_13; clear HO_23; clear HB; have HO_13 := n0_; have HO_23 := n1_; have HB := n2_; clear n0_ n1_ n2_; clear hg hw hp_; have p154 : 0 ≤ (x24_5 : Int) := of_decide_eq_true (by first | (with_reducible assumption) | assumption); have q154 : x24_5 < (x13_3.length : Int) := of_decide_eq_true (by first | (with_reducible assumption) | assumption); obtain ⟨ad154, e154, hx154_0⟩ := Kd.at_int (Kd.R_reads' HO_13.out).2.2 x24_5 p154 q154; obtain rfl : ad151 = ad154 := (by injection e154); replace p154 := eq_true p154; replace q154 := eq_true q154; have p155 : 0 ≤ ((ji60) : Int) := of_decide_eq_true (by first | (with_reducible assumption) | assumption); have q155 : (ji60) < (y153.length : Int) := (by have h_ : ((ji60) : Int) < ((x23_5.length : Int) : Int) := of_decide_eq_true (by first | (with_reducible assumption) | assumption); first | (have e_ := (Kd.R_reads' HO_23.out).1; omega) | simpa only [Ny153.out, List.length_set] using h_); have ql155 : (((ji60) : Int) < ((x23_5.length : Int) : Int)) = True := eq_true (of_decide_eq_true (by first | (with_reducible assumption) | assumption)); obtain ⟨ad155, e155, hx155_0⟩ := Kd.at_int (Kd.R_reads' HO_23.out).2.2 (ji60) p155 q155; obtain rfl : (⟨go63, 0, none⟩ : Addr) = ad155 := (by injection e155); (first | simp only [add_plain] at hx155_0 | simp only [add_at] at hx155_0 | simp only [Addr.add, Nat.zero_add] at hx155_0 | skip); replace p155 := eq_true p155; replace q155 := eq_true q155))
                                                      repeat (go_quiet (first | ((with_reducible refine gate_store (t := 2) (p := 184) rfl ?_); (try (rw [drewN_self wr]; generalize hq_ : World.drewN wr _ = wr; have n0_ := Aside0.mk (Kd.R_at hq_ HO_13.out); have n1_ := Aside0.mk (Kd.R_at hq_ HO_23.out); have n2_ := Aside0.mk (below_at hq_ HB.out); clear hq_ HO_13 HO_23 HB; have HO_13 := n0_; have HO_23 := n1_; have HB := n2_; clear n0_ n1_ n2_; (try (have HP67 := Kd.R_putg HO_23.out ((ji60) : Int) (wrap64 ((rd x23_5 (ji60)) + 1)))))); refine store_event (t := 2) (p := 184) (v := ?vo_w68) (w1 := (wr.setCell ⟨go63, ((ji60) : Int).toNat, none⟩ (.int .i64 (wrap64 ((rd x23_5 (ji60)) + 1))))) ?hg ?ho ?hn ?hr ?_; (case ho => rfl); (case hg => rfl); (case hn => rfl); (case hr => first | (go_simp; done) | (go_simp; rfl)); intro w68 hw; have hg : wr.grownBy w68 (some go63) := (by rw [hw]; exact HP67.2); have hp_ : Kd.R (Kd.int .i64) 2 w68 w.heap.size (fun k_ => some k_ ≠ (.slice (some ad151) x13_3.length co65 : Value).ownBlock) (.slice (some ⟨go63, 0, none⟩) x23_5.length co66) y153 := (by rw [hw, Ny153.out]; exact HP67.1); clear HP67; have n0_ := Aside0.mk (Kd.R_after (v := (.slice (some ⟨go63, 0, none⟩) x23_5.length co66)) (v1 := (.slice (some ⟨go63, 0, none⟩) x23_5.length co66)) (ok := (fun _ => True)) (by (with_reducible repeat (first | apply Kd.R_alloc | apply Kd.R_drewN | apply Kd.R_drew)); exact Kd.R_mono HO_13.out (fun _ hk => ⟨trivial, hk⟩)) hg (.inl rfl)); have n1_ := Aside0.mk (hp_); have n2_ := Aside0.mk ((by rw [hw]; exact below_set (HB.out) GB63.out : Below w.heap.size w w68)); clear HO_13; clear HO_23; clear HB; have HO_13 := n0_; have HO_23 := n1_; have HB := n2_; clear n0_ n1_ n2_; clear hg hw hp_; have p154 : 0 ≤ (x24_5 : Int) := of_decide_eq_true (by first | (with_reducible assumption) | assumption); have q154 : x24_5 < (x13_3.length : Int) := of_decide_eq_true (by first | (with_reducible assumption) | assumption); obtain ⟨ad154, e154, hx154_0⟩ := Kd.at_int (Kd.R_reads' HO_13.out).2.2 x24_5 p154 q154; obtain rfl : ad151 = ad154 := (by injection e154); replace p154 := eq_true p154; replace q154 := eq_true q154; have p155 : 0 ≤ ((ji60) : Int) := of_decide_eq_true (by first | (with_reducible assumption) | assumption); have q155 : (ji60) < (y153.length : Int) := (by have h_ : ((ji60) : Int) < ((x23_5.length : Int) : Int) := of_decide_eq_true (by first | (with_reducible assumption) | assumption); first | (have e_ := (Kd.R_reads' HO_23.out).1; omega) | simpa only [Ny153.out, List.length_set] using h_); have ql155 : (((ji60) : Int) < ((x23_5.length : Int) : Int)) = True := eq_true (of_decide_eq_true (by first | (with_reducible assumption) | assumption)); obtain ⟨ad155, e155, hx155_0⟩ := Kd.at_int (Kd.R_reads' HO_23.out).2.2 (ji60) p155 q155; obtain rfl : (⟨go63, 0, none⟩ : Addr) = ad155 := (by injection e155); (first | simp only [add_plain] at hx155_0 | simp only [add_at] at hx155_0 | simp only [Addr.add, Nat.zero_add] at hx155_0 | skip); replace p155 := eq_true p155; replace q155 := eq_true q155)); try go_wp2_with (first | ((with_reducible refine gate_store (t := 2) (p := 184) rfl ?_); (try (rw [drewN_self wr]; generalize hq_ : World.drewN wr _ = wr; have n0_ := Aside0.mk (Kd.R_at hq_ HO_13.out); have n1_ := Aside0.mk (Kd.R_at hq_ HO_23.out); have n2_ := Aside0.mk (below_at hq_ HB.out); clear hq_ HO_13 HO_23 HB; have HO_13 := n0_; have HO_23 := n1_; have HB := n2_; clear n0_ n1_ n2_; (try (have HP67 := Kd.R_putg HO_23.out ((ji60) : Int) (wrap64 ((rd x23_5 (ji60)) + 1)))))); refine store_event (t := 2) (p := 184) (v := ?vo_w68) (w1 := (wr.setCell ⟨go63, ((ji60) : Int).toNat, none⟩ (.int .i64 (wrap64 ((rd x23_5 (ji60)) + 1))))) ?hg ?ho ?hn ?hr ?_; (case ho => rfl); (case hg => rfl); (case hn => rfl); (case hr => first | (go_simp; done) | (go_simp; rfl)); intro w68 hw; have hg : wr.grownBy w68 (some go63) := (by rw [hw]; exact HP67.2); have hp_ : Kd.R (Kd.int .i64) 2 w68 w.heap.size (fun k_ => some k_ ≠ (.slice (some ad151) x13_3.length co65 : Value).ownBlock) (.slice (some ⟨go63, 0, none⟩) x23_5.length co66) y153 := (by rw [hw, Ny153.out]; exact HP67.1); clear HP67; have n0_ := Aside0.mk (Kd.R_after (v := (.slice (some ⟨go63, 0, none⟩) x23_5.length co66)) (v1 := (.slice (some ⟨go63, 0, none⟩) x23_5.length co66)) (ok := (fun _ => True)) (by (with_reducible repeat (first | apply Kd.R_alloc | apply Kd.R_drewN | apply Kd.R_drew)); exact Kd.R_mono HO_13.out (fun _ hk => ⟨trivial, hk⟩)) hg (.inl rfl)); have n1_ := Aside0.mk (hp_); have n2_ := Aside0.mk ((by rw [hw]; exact below_set (HB.out) GB63.out : Below w.heap.size w w68)); clear HO_13; clear HO_23; clear HB; have HO_13 := n0_; have HO_23 := n1_; have HB := n2_; clear n0_ n1_ n2_; clear hg hw hp_; have p154 : 0 ≤ (x24_5 : Int) := of_decide_eq_true (by first | (with_reducible assumption) | assumption); have q154 : x24_5 < (x13_3.length : Int) := of_decide_eq_true (by first | (with_reducible assumption) | assumption); obtain ⟨ad154, e154, hx154_0⟩ := Kd.at_int (Kd.R_reads' HO_13.out).2.2 x24_5 p154 q154; obtain rfl : ad151 = ad154 := (by injection e154); replace p154 := eq_true p154; replace q154 := eq_true q154; have p155 : 0 ≤ ((ji60) : Int) := of_decide_eq_true (by first | (with_reducible assumption) | assumption); have q155 : (ji60) < (y153.length : Int) := (by have h_ : ((ji60) : Int) < ((x23_5.length : Int) : Int) := of_decide_eq_true (by first | (with_reducible assumption) | assumption); first | (have e_ := (Kd.R_reads' HO_23.out).1; omega) | simpa only [Ny153.out, List.length_set] using h_); have ql155 : (((ji60) : Int) < ((x23_5.length : Int) : Int)) = True := eq_true (of_decide_eq_true (by first | (with_reducible assumption) | assumption)); obtain ⟨ad155, e155, hx155_0⟩ := Kd.at_int (Kd.R_reads' HO_23.out).2.2 (ji60) p155 q155; obtain rfl : (⟨go63, 0, none⟩ : Addr) = ad155 := (by injection e155); (first | simp only [add_plain] at hx155_0 | simp only [add_at] at hx155_0 | simp only [Addr.add, Nat.zero_add] at hx155_0 | skip); replace p155 := eq_true p155; replace q155 := eq_true q155)))
                                                      go_ret
                                                      exact ⟨by first | rfl | (simp [errW_none, errW_some] <;> rfl) | (simp only [← hji22, ← hji51, ← hji60]; first | rfl | (simp [errW_none, errW_some] <;> rfl)) | (simp [*, errW_none, errW_some] <;> rfl), by repeat (first | (with_reducible first | exact HB.out | apply below_alloc | apply pw_below_drewN | apply below_drew1) | exact HB.out)⟩
                                                    · rw [if_neg c64] at H
                                                      have c64b0 : decide (t144 < (rd y153 (ji60))) = false := decide_eq_false c64
                                                      clear c64
                                                      have H' := Aside0.mk H
                                                      clear H
                                                      obtain ⟨Ao69, co69, eo69⟩ := Kd.R_slice HO_13.out
                                                      subst eo69
                                                      have p151 : 0 ≤ (x24_5 : Int) := of_decide_eq_true (by first | (with_reducible assumption) | assumption)
                                                      have q151 : x24_5 < (x13_3.length : Int) := of_decide_eq_true (by first | (with_reducible assumption) | assumption)
                                                      obtain ⟨ad151, e151, hx151_0⟩ := Kd.at_int (Kd.R_reads' HO_13.out).2.2 x24_5 p151 q151
                                                      cases e151
                                                      replace p151 := eq_true p151
                                                      replace q151 := eq_true q151
                                                      obtain ⟨Ao70, co70, eo70⟩ := Kd.R_slice HO_23.out
                                                      subst eo70
                                                      have p152 : 0 ≤ ((ji60) : Int) := of_decide_eq_true (by first | (with_reducible assumption) | assumption)
                                                      have q152 : (ji60) < (x23_5.length : Int) := of_decide_eq_true (by first | (with_reducible assumption) | assumption)
                                                      obtain ⟨ad152, e152, hx152_0⟩ := Kd.at_int (Kd.R_reads' HO_23.out).2.2 (ji60) p152 q152
                                                      cases e152
                                                      replace p152 := eq_true p152
                                                      replace q152 := eq_true q152
                                                      have p63 : 0 ≤ ((ji60) : Int) := of_decide_eq_true (by first | (with_reducible assumption) | assumption)
                                                      have q63 : ((ji60) : Int) < ((x23_5.length : Int) : Int) := of_decide_eq_true (by first | (with_reducible assumption) | assumption)
                                                      obtain ⟨go63, co63, eo63, gb63, gl63, cl63, HG63⟩ := Kd.R_form HO_23.out (by omega)
                                                      (first | cases eo63 | (injection eo63 with ea_ en_ ec_; (first | subst ea_ | (injection ea_ with ea_; subst ea_)); subst ec_; clear en_))
                                                      have GB63 := Aside0.mk gb63
                                                      have GG63 := Aside0.mk HG63
                                                      clear gb63 gl63 HG63
                                                      (first | simp only [add_plain] at hx152_0 | skip)
                                                      obtain ⟨hx63_0, hf63_0⟩ := Kd.R_celln 0 HO_23.out ((ji60) : Int) p63 q63
                                                      replace p63 := eq_true p63
                                                      replace q63 := eq_true q63
                                                      have HP71 := Kd.R_putg HO_23.out ((ji60) : Int) (wrap64 ((rd x23_5 (ji60)) + 1))
                                                      go_wp2_with (first | ((with_reducible refine gate_store (t := 2) (p := 184) rfl ?_); (try (rw [drewN_self wr]; generalize hq_ : World.drewN wr _ = wr; have n0_ := Aside0.mk (Kd.R_at hq_ HO_13.out); have n1_ := Aside0.mk (Kd.R_at hq_ HO_23.out); have n2_ := Aside0.mk (below_at hq_ HB.out); clear hq_ HO_13 HO_23 HB; have HO_13 := n0_; have HO_23 := n1_; have HB := n2_; clear n0_ n1_ n2_; (try (have HP71 := Kd.R_putg HO_23.out ((ji60) : Int) (wrap64 ((rd x23_5 (ji60)) + 1)))))); refine store_event (t := 2) (p := 184) (v := ?vo_w72) (w1 := (wr.setCell ⟨go63, ((ji60) : Int).toNat, none⟩ (.int .i64 (wrap64 ((rd x23_5 (ji60)) + 1))))) ?hg ?ho ?hn ?hr ?_; (case ho => rfl); (case hg => rfl); (case hn => rfl); (case hr => first | (go_simp; done) | (go_simp; rfl)); intro w72 hw; have hg : wr.grownBy w72 (some go63) := (by rw [hw]; exact HP71.2); have hp_ : Kd.R (Kd.int .i64) 2 w72 w.heap.size (fun k_ => some k_ ≠ (.slice (some ad151) x13_3.length co69 : Value).ownBlock) (.slice (some ⟨go63, 0, none⟩) x23_5.length co70) y153 := (by rw [hw, Ny153.out]; exact HP71.1); clear HP71; have n0_ := Aside0.mk (Kd.R_after (v := (.slice (some ⟨go63, 0, none⟩) x23_5.length co70)) (v1 := (.slice (some ⟨go63, 0, none⟩) x23_5.length co70)) (ok := (fun _ => True)) (by (with_reducible repeat (first | apply Kd.R_alloc | apply Kd.R_drewN | apply Kd.R_drew)); exact Kd.R_mono HO_13.out (fun _ hk => ⟨trivial, hk⟩)) hg (.inl rfl)); have n1_ := Aside0.mk (hp_); have n2_ := Aside0.mk ((by rw [hw]; exact below_set (HB.out) GB63.out : Below w.heap.size w w72)); clear HO_13; clear HO_23; clear HB; have HO_13 := n0_; have HO_23 := n1_; have HB := n2_; clear n0_ n1_ n2_; clear hg hw hp_; have p154 : 0 ≤ (x24_5 : Int) := of_decide_eq_true (by first | (with_reducible assumption) | assumption); have q154 : x24_5 < (x13_3.length : Int) := of_decide_eq_true (by first | (with_reducible assumption) | assumption); obtain ⟨ad154, e154, hx154_0⟩ := Kd.at_int (Kd.R_reads' HO_13.out).2.2 x24_5 p154 q154; obtain rfl : ad151 = ad154 := (by injection e154); replace p154 := eq_true p154; replace q154 := eq_true q154; have p155 : 0 ≤ ((ji60) : Int) := of_decide_eq_true (by first | (with_reducible assumption) | assumption); have q155 : (ji60) < (y153.length : Int) := (by have h_ : ((ji60) : Int) < ((x23_5.length : Int) : Int) := of_decide_eq_true (by first | (with_reducible assumption) | assumption); first | (have e_ := (Kd.R_reads' HO_23.out).1; omega) | simpa only [Ny153.out, List.length_set] using h_); have ql155 : (((ji60) : Int) < ((x23_5.length : Int) : Int)) = True := eq_true (of_decide_eq_true (by first | (with_reducible assumption) | assumption)); obtain ⟨ad155, e155, hx155_0⟩ := Kd.at_int (Kd.R_reads' HO_23.out).2.2 (ji60) p155 q155; obtain rfl : (⟨go63, 0, none⟩ : Addr) = ad155 := (by injection e155); (first | simp only [add_plain] at hx155_0 | simp only [add_at] at hx155_0 | simp only [Addr.add, Nat.zero_add] at hx155_0 | skip); replace p155 := eq_true p155; replace q155 := eq_true q155))
                                                      repeat (go_quiet (first | ((with_reducible refine gate_store (t := 2) (p := 184) rfl ?_); (try (rw [drewN_self wr]; generalize hq_ : World.drewN wr _ = wr; have n0_ := Aside0.mk (Kd.R_at hq_ HO_13.out); have n1_ := Aside0.mk (Kd.R_at hq_ HO_23.out); have n2_ := Aside0.mk (below_at hq_ HB.out); clear hq_ HO_13 HO_23 HB; have HO_13 := n0_; have HO_23 := n1_; have HB := n2_; clear n0_ n1_ n2_; (try (have HP71 := Kd.R_putg HO_23.out ((ji60) : Int) (wrap64 ((rd x23_5 (ji60)) + 1)))))); refine store_event (t := 2) (p := 184) (v := ?vo_w72) (w1 := (wr.setCell ⟨go63, ((ji60) : Int).toNat, none⟩ (.int .i64 (wrap64 ((rd x23_5 (ji60)) + 1))))) ?hg ?ho ?hn ?hr ?_; (case ho => rfl); (case hg => rfl); (case hn => rfl); (case hr => first | (go_simp; done) | (go_simp; rfl)); intro w72 hw; have hg : wr.grownBy w72 (some go63) := (by rw [hw]; exact HP71.2); have hp_ : Kd.R (Kd.int .i64) 2 w72 w.heap.size (fun k_ => some k_ ≠ (.slice (some ad151) x13_3.length co69 : Value).ownBlock) (.slice (some ⟨go63, 0, none⟩) x23_5.length co70) y153 := (by rw [hw, Ny153.out]; exact HP71.1); clear HP71; have n0_ := Aside0.mk (Kd.R_after (v := (.slice (some ⟨go63, 0, none⟩) x23_5.length co70)) (v1 := (.slice (some ⟨go63, 0, none⟩) x23_5.length co70)) (ok := (fun _ => True)) (by (with_reducible repeat (first | apply Kd.R_alloc | apply Kd.R_drewN | apply Kd.R_drew)); exact Kd.R_mono HO_13.out (fun _ hk => ⟨trivial, hk⟩)) hg (.inl rfl)); have n1_ := Aside0.mk (hp_); have n2_ := Aside0.mk ((by rw [hw]; exact below_set (HB.out) GB63.out : Below w.heap.size w w72)); clear HO_13; clear HO_23; clear HB; have HO_13 := n0_; have HO_23 := n1_; have HB := n2_; clear n0_ n1_ n2_; clear hg hw hp_; have p154 : 0 ≤ (x24_5 : Int) := of_decide_eq_true (by first | (with_reducible assumption) | assumption); have q154 : x24_5 < (x13_3.length : Int) := of_decide_eq_true (by first | (with_reducible assumption) | assumption); obtain ⟨ad154, e154, hx154_0⟩ := Kd.at_int (Kd.R_reads' HO_13.out).2.2 x24_5 p154 q154; obtain rfl : ad151 = ad154 := (by injection e154); replace p154 := eq_true p154; replace q154 := eq_true q154; have p155 : 0 ≤ ((ji60) : Int) := of_decide_eq_true (by first | (with_reducible assumption) | assumption); have q155 : (ji60) < (y153.length : Int) := (by have h_ : ((ji60) : Int) < ((x23_5.length : Int) : Int) := of_decide_eq_true (by first | (with_reducible assumption) | assumption); first | (have e_ := (Kd.R_reads' HO_23.out).1; omega) | simpa only [Ny153.out, List.length_set] using h_); have ql155 : (((ji60) : Int) < ((x23_5.length : Int) : Int)) = True := eq_true (of_decide_eq_true (by first | (with_reducible assumption) | assumption)); obtain ⟨ad155, e155, hx155_0⟩ := Kd.at_int (Kd.R_reads' HO_23.out).2.2 (ji60) p155 q155; obtain rfl : (⟨go63, 0, none⟩ : Addr) = ad155 := (by injection e155); (first | simp only [add_plain] at hx155_0 | simp only [add_at] at hx155_0 | simp only [Addr.add, Nat.zero_add] at hx155_0 | skip); replace p155 := eq_true p155; replace q155 := eq_true q155)); try go_wp2_with (first | ((with_reducible refine gate_store (t := 2) (p := 184) rfl ?_); (try (rw [drewN_self wr]; generalize hq_ : World.drewN wr _ = wr; have n0_ := Aside0.mk (Kd.R_at hq_ HO_13.out); have n1_ := Aside0.mk (Kd.R_at hq_ HO_23.out); have n2_ := Aside0.mk (below_at hq_ HB.out); clear hq_ HO_13 HO_23 HB; have HO_13 := n0_; have HO_23 := n1_; have HB := n2_; clear n0_ n1_ n2_; (try (have HP71 := Kd.R_putg HO_23.out ((ji60) : Int) (wrap64 ((rd x23_5 (ji60)) + 1)))))); refine store_event (t := 2) (p := 184) (v := ?vo_w72) (w1 := (wr.setCell ⟨go63, ((ji60) : Int).toNat, none⟩ (.int .i64 (wrap64 ((rd x23_5 (ji60)) + 1))))) ?hg ?ho ?hn ?hr ?_; (case ho => rfl); (case hg => rfl); (case hn => rfl); (case hr => first | (go_simp; done) | (go_simp; rfl)); intro w72 hw; have hg : wr.grownBy w72 (some go63) := (by rw [hw]; exact HP71.2); have hp_ : Kd.R (Kd.int .i64) 2 w72 w.heap.size (fun k_ => some k_ ≠ (.slice (some ad151) x13_3.length co69 : Value).ownBlock) (.slice (some ⟨go63, 0, none⟩) x23_5.length co70) y153 := (by rw [hw, Ny153.out]; exact HP71.1); clear HP71; have n0_ := Aside0.mk (Kd.R_after (v := (.slice (some ⟨go63, 0, none⟩) x23_5.length co70)) (v1 := (.slice (some ⟨go63, 0, none⟩) x23_5.length co70)) (ok := (fun _ => True)) (by (with_reducible repeat (first | apply Kd.R_alloc | apply Kd.R_drewN | apply Kd.R_drew)); exact Kd.R_mono HO_13.out (fun _ hk => ⟨trivial, hk⟩)) hg (.inl rfl)); have n1_ := Aside0.mk (hp_); have n2_ := Aside0.mk ((by rw [hw]; exact below_set (HB.out) GB63.out : Below w.heap.size w w72)); clear HO_13; clear HO_23; clear HB; have HO_13 := n0_; have HO_23 := n1_; have HB := n2_; clear n0_ n1_ n2_; clear hg hw hp_; have p154 : 0 ≤ (x24_5 : Int) := of_decide_eq_true (by first | (with_reducible assumption) | assumption); have q154 : x24_5 < (x13_3.length : Int) := of_decide_eq_true (by first | (with_reducible assumption) | assumption); obtain ⟨ad154, e154, hx154_0⟩ := Kd.at_int (Kd.R_reads' HO_13.out).2.2 x24_5 p154 q154; obtain rfl : ad151 = ad154 := (by injection e154); replace p154 := eq_true p154; replace q154 := eq_true q154; have p155 : 0 ≤ ((ji60) : Int) := of_decide_eq_true (by first | (with_reducible assumption) | assumption); have q155 : (ji60) < (y153.length : Int) := (by have h_ : ((ji60) : Int) < ((x23_5.length : Int) : Int) := of_decide_eq_true (by first | (with_reducible assumption) | assumption); first | (have e_ := (Kd.R_reads' HO_23.out).1; omega) | simpa only [Ny153.out, List.length_set] using h_); have ql155 : (((ji60) : Int) < ((x23_5.length : Int) : Int)) = True := eq_true (of_decide_eq_true (by first | (with_reducible assumption) | assumption)); obtain ⟨ad155, e155, hx155_0⟩ := Kd.at_int (Kd.R_reads' HO_23.out).2.2 (ji60) p155 q155; obtain rfl : (⟨go63, 0, none⟩ : Addr) = ad155 := (by injection e155); (first | simp only [add_plain] at hx155_0 | simp only [add_at] at hx155_0 | simp only [Addr.add, Nat.zero_add] at hx155_0 | skip); replace p155 := eq_true p155; replace q155 := eq_true q155)))
                                                      go_loopg [25] k5 (fun kq v25 w' => ∃ (x25_6 : Int), v25 = .int .i64 x25_6 ∧ Aside0 (laws_FnInterleaved.l3 kq (wrap64 (1 + t127)) x13_3 (wrap64 (1 + t142)) t143 t144 t146 y153 x24_5 x25_6 = some r) ∧ Aside0 (kq ≤ k5) ∧ Aside0 (Kd.R (Kd.int .i64) 2 w' w.heap.size (fun k_ => some k_ ≠ ((.slice (some ⟨go63, 0, none⟩) x23_5.length co70) : Value).ownBlock) (.slice (some ad151) x13_3.length co69) x13_3) ∧ Aside0 (Kd.R (Kd.int .i64) 2 w' w.heap.size (fun k_ => some k_ ≠ ((.slice (some ad151) x13_3.length co69) : Value).ownBlock) (.slice (some ⟨go63, 0, none⟩) x23_5.length co70) y153) ∧ Aside0 (Below w.heap.size w w'))
                                                      case atStart => exact ⟨(t143), (by first | rfl | (simp; done) | (simp [*]; done)), H', ⟨Nat.le_refl _⟩, ⟨by (with_reducible repeat (first | apply Kd.R_alloc | apply Kd.R_drewN | apply Kd.R_drew)); exact Kd.R_mono HO_13.out (fun _ hk => hk.2)⟩, ⟨by (with_reducible repeat (first | apply Kd.R_alloc | apply Kd.R_drewN | apply Kd.R_drew)); exact HO_23.out⟩, ⟨by repeat (first | (with_reducible first | exact HB.out | apply below_alloc | apply pw_below_drewN | apply below_drew1) | exact HB.out)⟩⟩
                                                      case round =>
                                                        clear H'
                                                        try clear c1
                                                        try clear p1
                                                        try clear q1
                                                        try clear hx1
                                                        try clear hcv1
                                                        try clear c2
                                                        try clear p2
                                                        try clear c3
                                                        try clear p3
                                                        try clear q3
                                                        try clear hx3
                                                        try clear c4
                                                        try clear p4
                                                        try clear q4
                                                        try clear hx4
                                                        try clear hf4
                                                        try clear c5
                                                        try clear c6
                                                        try clear p6
                                                        try clear q6
                                                        try clear hx6
                                                        try clear hf6
                                                        try clear c7
                                                        try clear c7b0
                                                        try clear c9
                                                        try clear c9b0
                                                        try clear c9b1
                                                        try clear c9b2
                                                        try clear hcv12
                                                        try clear p15
                                                        try clear q15
                                                        try clear hx15
                                                        try clear c18
                                                        try clear c19
                                                        try clear c20
                                                        try clear c20b0
                                                        try clear c20b1
                                                        try clear c21
                                                        try clear c23
                                                        try clear c23b0
                                                        try clear c23b1
                                                        try clear c24
                                                        try clear c24b0
                                                        try clear c24b1
                                                        try clear c27
                                                        try clear c27b0
                                                        try clear c29
                                                        try clear c30
                                                        try clear c30b0
                                                        try clear c31
                                                        try clear c31b0
                                                        try clear c32
                                                        try clear c32b0
                                                        try clear c33
                                                        try clear c33b0
                                                        try clear p34
                                                        try clear q34
                                                        try clear hx34
                                                        try clear c35
                                                        try clear c35b0
                                                        try clear c36
                                                        try clear c36b0
                                                        try clear p37
                                                        try clear q37
                                                        try clear hx37
                                                        try clear c38
                                                        try clear c38b0
                                                        try clear c38b1
                                                        try clear c39
                                                        try clear c39b0
                                                        try clear p40
                                                        try clear q40
                                                        try clear hx40
                                                        try clear hf40
                                                        try clear c49
                                                        try clear c50
                                                        try clear c52
                                                        try clear c52b0
                                                        try clear c52b1
                                                        try clear c53
                                                        try clear c53b0
                                                        try clear c53b1
                                                        try clear c56
                                                        try clear c56b0
                                                        try clear c57
                                                        try clear c57b0
                                                        try clear c58
                                                        try clear c58b0
                                                        try clear c59
                                                        try clear c59b0
                                                        try clear c59b1
                                                        try clear c61
                                                        try clear c61b0
                                                        try clear c62
                                                        try clear c62b0
                                                        try clear p63
                                                        try clear q63
                                                        try clear hx63
                                                        try clear hf63
                                                        try clear c64
                                                        try clear c64b0
                                                        try clear p64
                                                        try clear hx151_0
                                                        try clear hx152_0
                                                        try clear hx154_0
                                                        try clear hx155_0
                                                        try clear hx40_0
                                                        try clear hx63_0
                                                        try clear p151
                                                        try clear p152
                                                        try clear p154
                                                        try clear p155
                                                        try clear p2
                                                        try clear p3
                                                        try clear p34
                                                        try clear p37
                                                        try clear p4
                                                        try clear p40
                                                        try clear p6
                                                        try clear p63
                                                        try clear q151
                                                        try clear q152
                                                        try clear q154
                                                        try clear q155
                                                        try clear q3
                                                        try clear q34
                                                        try clear q37
                                                        try clear q4
                                                        try clear q40
                                                        try clear q63
                                                        obtain ⟨x25_6, rfl, HA, HK6, HO_13, HO_23, HB⟩ := hrel
                                                        have hl23_6 := (Kd.R_reads' HO_23.out).1
                                                        rw [hl23_6] at HO_23
                                                        (try simp only [hl23_6])
                                                        (try simp only [hl23_6] at HO_13)
                                                        cases gk with
                                                        | zero => exact absurd HA.out (by simp [laws_FnInterleaved.l3])
                                                        | succ k6 =>
                                                          have H := HA.out
                                                          clear HA
                                                          simp only [laws_FnInterleaved.l3] at H
                                                          by_cases c73 : x25_6 < x24_5
                                                          · rw [if_pos c73] at H
                                                            have c73b0 : decide (x25_6 < x24_5) = true := decide_eq_true c73
                                                            clear c73
                                                            by_cases c74 : 0 ≤ x24_5
                                                            · rw [if_pos c74] at H
                                                              have c74b0 : decide (0 ≤ x24_5) = true := decide_eq_true c74
                                                              clear c74
                                                              by_cases c75 : x24_5 < (x13_3.length : Int)
                                                              · rw [if_pos c75] at H
                                                                have c75b0 : decide (x24_5 < (x13_3.length : Int)) = true := decide_eq_true c75
                                                                clear c75
                                                                by_cases c76 : 0 ≤ x25_6
                                                                · rw [if_pos c76] at H
                                                                  have c76b0 : decide (0 ≤ x25_6) = true := decide_eq_true c76
                                                                  clear c76
                                                                  by_cases c77 : x25_6 < (x13_3.length : Int)
                                                                  · rw [if_pos c77] at H
                                                                    have c77b0 : decide (x25_6 < (x13_3.length : Int)) = true := decide_eq_true c77
                                                                    clear c77
                                                                    by_cases c78 : (wrap64 ((rd x13_3 x24_5) - (rd x13_3 x25_6))) < t146
                                                                    · rw [if_pos c78] at H
                                                                      have c78b0 : decide ((wrap64 ((rd x13_3 x24_5) - (rd x13_3 x25_6))) < t146) = true := decide_eq_true c78
                                                                      clear c78
                                                                      by_cases c79 : (wrap64 ((rd x13_3 x25_6) - (rd x13_3 x24_5))) < t146
                                                                      · rw [if_pos c79] at H
                                                                        have c79b0 : decide ((wrap64 ((rd x13_3 x25_6) - (rd x13_3 x24_5))) < t146) = true := decide_eq_true c79
                                                                        clear c79
                                                                        obtain rfl := Option.some.inj H
                                                                        have p156 : 0 ≤ (x24_5 : Int) := of_decide_eq_true (by first | (with_reducible assumption) | assumption)
                                                                        have q156 : x24_5 < (x13_3.length : Int) := of_decide_eq_true (by first | (with_reducible assumption) | assumption)
                                                                        obtain ⟨ad156, e156, hx156_0⟩ := Kd.at_int (Kd.R_reads' HO_13.out).2.2 x24_5 p156 q156
                                                                        obtain rfl : ad151 = ad156 := (by injection e156)
                                                                        replace p156 := eq_true p156
                                                                        replace q156 := eq_true q156
                                                                        have p157 : 0 ≤ (x25_6 : Int) := of_decide_eq_true (by first | (with_reducible assumption) | assumption)
                                                                        have q157 : x25_6 < (x13_3.length : Int) := of_decide_eq_true (by first | (with_reducible assumption) | assumption)
                                                                        obtain ⟨ad157, e157, hx157_0⟩ := Kd.at_int (Kd.R_reads' HO_13.out).2.2 x25_6 p157 q157
                                                                        obtain rfl : ad151 = ad157 := (by injection e157)
                                                                        replace p157 := eq_true p157
                                                                        replace q157 := eq_true q157
                                                                        have p158 : 0 ≤ (x25_6 : Int) := of_decide_eq_true (by first | (with_reducible assumption) | assumption)
                                                                        have q158 : x25_6 < (x13_3.length : Int) := of_decide_eq_true (by first | (with_reducible assumption) | assumption)
                                                                        obtain ⟨ad158, e158, hx158_0⟩ := Kd.at_int (Kd.R_reads' HO_13.out).2.2 x25_6 p158 q158
                                                                        obtain rfl : ad151 = ad158 := (by injection e158)
                                                                        replace p158 := eq_true p158
                                                                        replace q158 := eq_true q158
                                                                        have p159 : 0 ≤ (x24_5 : Int) := of_decide_eq_true (by first | (with_reducible assumption) | assumption)
                                                                        have q159 : x24_5 < (x13_3.length : Int) := of_decide_eq_true (by first | (with_reducible assumption) | assumption)
                                                                        obtain ⟨ad159, e159, hx159_0⟩ := Kd.at_int (Kd.R_reads' HO_13.out).2.2 x24_5 p159 q159
                                                                        obtain rfl : ad151 = ad159 := (by injection e159)
                                                                        replace p159 := eq_true p159
                                                                        replace q159 := eq_true q159
                                                                        go_wp2
                                                                        repeat (go_quiet (fail); try go_wp2)
                                                                        go_ret
                                                                        exact ⟨by first | rfl | (simp [errW_none, errW_some] <;> rfl) | (simp only [← hji22, ← hji51, ← hji60]; first | rfl | (simp [errW_none, errW_some] <;> rfl)) | (simp [*, errW_none, errW_some] <;> rfl), by repeat (first | (with_reducible first | exact HB.out | apply below_alloc | apply pw_below_drewN | apply below_drew1) | exact HB.out)⟩
                                                                      · rw [if_neg c79] at H
                                                                        have c79b0 : decide ((wrap64 ((rd x13_3 x25_6) - (rd x13_3 x24_5))) < t146) = false := decide_eq_false c79
                                                                        clear c79
                                                                        have H' := Aside0.mk H
                                                                        clear H
                                                                        have p156 : 0 ≤ (x24_5 : Int) := of_decide_eq_true (by first | (with_reducible assumption) | assumption)
                                                                        have q156 : x24_5 < (x13_3.length : Int) := of_decide_eq_true (by first | (with_reducible assumption) | assumption)
                                                                        obtain ⟨ad156, e156, hx156_0⟩ := Kd.at_int (Kd.R_reads' HO_13.out).2.2 x24_5 p156 q156
                                                                        obtain rfl : ad151 = ad156 := (by injection e156)
                                                                        replace p156 := eq_true p156
                                                                        replace q156 := eq_true q156
                                                                        have p157 : 0 ≤ (x25_6 : Int) := of_decide_eq_true (by first | (with_reducible assumption) | assumption)
                                                                        have q157 : x25_6 < (x13_3.length : Int) := of_decide_eq_true (by first | (with_reducible assumption) | assumption)
                                                                        obtain ⟨ad157, e157, hx157_0⟩ := Kd.at_int (Kd.R_reads' HO_13.out).2.2 x25_6 p157 q157
                                                                        obtain rfl : ad151 = ad157 := (by injection e157)
                                                                        replace p157 := eq_true p157
                                                                        replace q157 := eq_true q157
                                                                        have p158 : 0 ≤ (x25_6 : Int) := of_decide_eq_true (by first | (with_reducible assumption) | assumption)
                                                                        have q158 : x25_6 < (x13_3.length : Int) := of_decide_eq_true (by first | (with_reducible assumption) | assumption)
                                                                        obtain ⟨ad158, e158, hx158_0⟩ := Kd.at_int (Kd.R_reads' HO_13.out).2.2 x25_6 p158 q158
                                                                        obtain rfl : ad151 = ad158 := (by injection e158)
                                                                        replace p158 := eq_true p158
                                                                        replace q158 := eq_true q158
                                                                        have p159 : 0 ≤ (x24_5 : Int) := of_decide_eq_true (by first | (with_reducible assumption) | assumption)
                                                                        have q159 : x24_5 < (x13_3.length : Int) := of_decide_eq_true (by first | (with_reducible assumption) | assumption)
                                                                        obtain ⟨ad159, e159, hx159_0⟩ := Kd.at_int (Kd.R_reads' HO_13.out).2.2 x24_5 p159 q159
                                                                        obtain rfl : ad151 = ad159 := (by injection e159)
                                                                        replace p159 := eq_true p159
                                                                        replace q159 := eq_true q159
                                                                        go_wp2
                                                                        repeat (go_quiet (fail); try go_wp2)
                                                                        (try simp only [← hl23_6])
                                                                        go_roundg k6
                                                                        case measure => have := HK1.out; have := HJ14.out; have := HK3.out; have := HJ46.out; have := HK5.out; have := HK6.out; omega
                                                                        case rel => exact ⟨(wrap64 (x25_6 + 1)), (by first | rfl | (simp; done) | (simp [*]; done)), H', ⟨by have := HK1.out; have := HJ14.out; have := HK3.out; have := HJ46.out; have := HK5.out; have := HK6.out; omega⟩, ⟨by (try simp only [hl23_6]); (with_reducible repeat (first | apply Kd.R_alloc | apply Kd.R_drewN | apply Kd.R_drew)); exact HO_13.out⟩, ⟨by (try simp only [hl23_6]); (with_reducible repeat (first | apply Kd.R_alloc | apply Kd.R_drewN | apply Kd.R_drew)); exact HO_23.out⟩, ⟨by repeat (first | (with_reducible first | exact HB.out | apply below_alloc | apply pw_below_drewN | apply below_drew1) | exact HB.out)⟩⟩
                                                                    · rw [if_neg c78] at H
                                                                      have c78b0 : decide ((wrap64 ((rd x13_3 x24_5) - (rd x13_3 x25_6))) < t146) = false := decide_eq_false c78
                                                                      clear c78
                                                                      have H' := Aside0.mk H
                                                                      clear H
                                                                      have p156 : 0 ≤ (x24_5 : Int) := of_decide_eq_true (by first | (with_reducible assumption) | assumption)
                                                                      have q156 : x24_5 < (x13_3.length : Int) := of_decide_eq_true (by first | (with_reducible assumption) | assumption)
                                                                      obtain ⟨ad156, e156, hx156_0⟩ := Kd.at_int (Kd.R_reads' HO_13.out).2.2 x24_5 p156 q156
                                                                      obtain rfl : ad151 = ad156 := (by injection e156)
                                                                      replace p156 := eq_true p156
                                                                      replace q156 := eq_true q156
                                                                      have p157 : 0 ≤ (x25_6 : Int) := of_decide_eq_true (by first | (with_reducible assumption) | assumption)
                                                                      have q157 : x25_6 < (x13_3.length : Int) := of_decide_eq_true (by first | (with_reducible assumption) | assumption)
                                                                      obtain ⟨ad157, e157, hx157_0⟩ := Kd.at_int (Kd.R_reads' HO_13.out).2.2 x25_6 p157 q157
                                                                      obtain rfl : ad151 = ad157 := (by injection e157)
                                                                      replace p157 := eq_true p157
                                                                      replace q157 := eq_true q157
                                                                      go_wp2
                                                                      repeat (go_quiet (fail); try go_wp2)
                                                                      (try simp only [← hl23_6])
                                                                      go_roundg k6
                                                                      case measure => have := HK1.out; have := HJ14.out; have := HK3.out; have := HJ46.out; have := HK5.out; have := HK6.out; omega
                                                                      case rel => exact ⟨(wrap64 (x25_6 + 1)), (by first | rfl | (simp; done) | (simp [*]; done)), H', ⟨by have := HK1.out; have := HJ14.out; have := HK3.out; have := HJ46.out; have := HK5.out; have := HK6.out; omega⟩, ⟨by (try simp only [hl23_6]); (with_reducible repeat (first | apply Kd.R_alloc | apply Kd.R_drewN | apply Kd.R_drew)); exact HO_13.out⟩, ⟨by (try simp only [hl23_6]); (with_reducible repeat (first | apply Kd.R_alloc | apply Kd.R_drewN | apply Kd.R_drew)); exact HO_23.out⟩, ⟨by repeat (first | (with_reducible first | exact HB.out | apply below_alloc | apply pw_below_drewN | apply below_drew1) | exact HB.out)⟩⟩
                                                                  · rw [if_neg c77] at H
                                                                    exact absurd H (by simp)
                                                                · rw [if_neg c76] at H
                                                                  exact absurd H (by simp)
                                                              · rw [if_neg c75] at H
                                                                exact absurd H (by simp)
                                                            · rw [if_neg c74] at H
                                                              exact absurd H (by simp)
                                                          · rw [if_neg c73] at H
                                                            have c73b0 : decide (x25_6 < x24_5) = false := decide_eq_false c73
                                                            clear c73
                                                            have H' := Aside0.mk H
                                                            clear H
                                                            go_wp2
                                                            repeat (go_quiet (fail); try go_wp2)
                                                            (try simp only [← hl23_6])
                                                            go_roundg k6
                                                            case measure => have := HK1.out; have := HJ14.out; have := HK3.out; have := HJ46.out; have := HK5.out; have := HK6.out; omega
                                                            case rel => exact ⟨(y153), (wrap64 (x24_5 + 1)), (by first | rfl | (simp; done) | (simp [*]; done)), H', ⟨by have := HK1.out; have := HJ14.out; have := HK3.out; have := HJ46.out; have := HK5.out; have := HK6.out; omega⟩, ⟨by (try simp only [hl23_6]); (with_reducible repeat (first | apply Kd.R_alloc | apply Kd.R_drewN | apply Kd.R_drew)); exact HO_13.out⟩, ⟨by (try simp only [hl23_6]); (with_reducible repeat (first | apply Kd.R_alloc | apply Kd.R_drewN | apply Kd.R_drew)); exact HO_23.out⟩, ⟨by repeat (first | (with_reducible first | exact HB.out | apply below_alloc | apply pw_below_drewN | apply below_drew1) | exact HB.out)⟩⟩
                                                  · rw [if_neg c62] at H
                                                    exact absurd H (by simp)
                                                · rw [if_neg c61] at H
                                                  exact absurd H (by simp)
                                            · rw [if_neg c58] at H
                                              exact absurd H (by simp)
                                          · rw [if_neg c57] at H
                                            exact absurd H (by simp)
                                        · rw [if_neg c56] at H
                                          have c56b0 : decide (x24_5 < (wrap64 (t143 + (wrap64 (1 + t142))))) = false := decide_eq_false c56
                                          clear c56
                                          obtain rfl := Option.some.inj H
                                          go_wp2
                                          repeat (go_quiet (fail); try go_wp2)
                                          go_ret
                                          exact ⟨by first | rfl | (simp [errW_none, errW_some] <;> rfl) | (simp only [← hji22, ← hji51]; first | rfl | (simp [errW_none, errW_some] <;> rfl)) | (simp [*, errW_none, errW_some] <;> rfl), by repeat (first | (with_reducible first | exact HB.out | apply below_alloc | apply pw_below_drewN | apply below_drew1) | exact HB.out)⟩
                                  · rw [if_neg c53] at H
                                    exact absurd H (by simp)
                                · rw [if_neg c52] at H
                                  exact absurd H (by simp)
                  · rw [if_neg c24] at H
                    exact absurd H (by simp)
                · rw [if_neg c23] at H
                  exact absurd H (by simp)

/-- THE ONE PURE STATEMENT of laws_FnInterleaved: yours. -/
def laws_FnInterleaved.Pure : Prop := ∀ (l0 : List Int) (l1 : List Int), l0.length ≤ maxLen → l0.length * 1 ≤ 140737488351232 → (∀ x ∈ l0, (Lit.int .u8 x).wf = true) → l1.length ≤ maxLen → l1.length * 1 ≤ 140737488351232 → (∀ x ∈ l1, (Lit.int .u8 x).wf = true) → ∃ k, laws_FnInterleaved.f k l0 l1 = some true
theorem laws_FnInterleaved.walk (P : laws_FnInterleaved.Pure) (a0 : Option Addr) (len0 cap0 : Nat) (z0 : List Int) (a1 : Option Addr) (len1 cap1 : Nat) (z1 : List Int) (w : World) (w0 : (a0 = none ∧ len0 = 0 ∧ cap0 = 0 ∧ z0 = []) ∨ ∃ x, a0 = some x ∧ len0 ≤ cap0 ∧ cap0 ≤ maxLen ∧ z0.length = cap0 ∧ (∀ i, i < z0.length → w.cell? (x.add i) = some (.int .u8 (z0.getD i 0))) ∧ ∀ n ∈ z0, (Lit.int .u8 n).wf = true) (y0 : len0 * 1 ≤ 140737488351232) (w1 : (a1 = none ∧ len1 = 0 ∧ cap1 = 0 ∧ z1 = []) ∨ ∃ x, a1 = some x ∧ len1 ≤ cap1 ∧ cap1 ≤ maxLen ∧ z1.length = cap1 ∧ (∀ i, i < z1.length → w.cell? (x.add i) = some (.int .u8 (z1.getD i 0))) ∧ ∀ n ∈ z1, (Lit.int .u8 n).wf = true) (y1 : len1 * 1 ≤ 140737488351232) :
    Calls Tryd.prog 4 #[.slice a0 len0 cap0, .slice a1 len1 cap1] w fun e w' => e = .returned (.bool true) ∧ Below w.heap.size w w' := by
  obtain ⟨l0, rfl, hr0, hm0, hw0, hc0⟩ := ReadsInt.ofRowC w0
  obtain ⟨l1, rfl, hr1, hm1, hw1, hc1⟩ := ReadsInt.ofRowC w1
  obtain ⟨k, h⟩ := P l0 l1 hm0 y0 hw0 hm1 y1 hw1
  refine (laws_FnInterleaved.calls k _ _ l0 _ _ l1 true w (Kd.C_of_reads (d := (0 : Int)) (h1 := fun _ => rfl) hr0) hc0 (Kd.C_of_reads (d := (0 : Int)) (h1 := fun _ => rfl) hr1) hc1 h).mono ?_
  rintro e w' ⟨rfl, hd⟩
  exact ⟨rfl, hd⟩

end Go.Proofs.YtckjcighblnnfaaDoor.QFnInterleaved
