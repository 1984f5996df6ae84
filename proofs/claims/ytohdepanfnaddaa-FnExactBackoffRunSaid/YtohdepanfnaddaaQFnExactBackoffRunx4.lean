/- FnExactBackoffRun: functions that it reaches, with what they compute and the proof that they do; written by a program of this session (wip/myprint.py). -/
import Derived.Test.YtohdepanfnaddaaQFnExactBackoffRunx0
import Derived.Test.YtohdepanfnaddaaQFnExactBackoffRunx3
namespace Go.Proofs.Ytohdepanfnaddaa.QFnExactBackoffRun
open Go.RowKit Go.Proofs.YtohdepanfnaddaaW.PrintWords Go.Proofs.YtohdepanfnaddaaW.PrintLast Go.Proofs.YtohdepanfnaddaaW.PrintMore
attribute [local go_sem] max2_int min2_int max_two min_two max_three min_three max_four min_four   -- for this text's walks alone
set_option linter.unusedVariables false
set_option linter.unusedSimpArgs false

/-! ### impl_BackoffRun: function 7 -/
mutual
def impl_BackoffRun.l0 : Nat → List (List Int) → Int → List Int → Int → List Int → List (List Int) → Int → Int → Option (List Int × List Int × Bool)
  | 0, _, _, _, _, _, _, _, _ => none
  | k + 1, x0, x5, x6, x8, x27, x28, x29, x30 => if x30 < x29 then (if 0 ≤ x30 then (if x30 < (x28.length : Int) then (if ((rd_L1 x28 x30).length : Int) < 1 then (some (([] : List Int), ([] : List Int), false)) else (if ((rd_L1 x28 x30).length : Int) > 40 then (some (([] : List Int), ([] : List Int), false)) else ((impl_areIn.f k (rd_L1 x28 x30) 0 20).bind fun t181 => (if t181 = true then (if 0 < ((rd_L1 x28 x30).length : Int) then (if x6.length < 17592186044416 then (impl_BackoffRun.l0 k x0 x5 (x6 ++ [rd (rd_L1 x28 x30) 0]) (wrap64 (x8 + 1)) x27 x28 x29 (wrap64 (x30 + 1))) else (none)) else (none)) else (some (([] : List Int), ([] : List Int), false)))))) else (none)) else (none)) else ((slices_Repeat_int64_int64.f (([(-1)] : List Int)) x5).bind fun t192 => (impl_BackoffRun.l1 k x0 x6 x8 (([] : List Int)) x27 t192))
def impl_BackoffRun.l1 : Nat → List (List Int) → List Int → Int → List Int → List Int → List Int → Option (List Int × List Int × Bool)
  | 0, _, _, _, _, _, _ => none
  | k + 1, x0, x6, x8, x11, x27, x59 => if x8 > 0 then (impl_BackoffRun.j2 k x0 x6 x27 x8 x11 x59 (decide ((x11.length : Int) < 300))) else (impl_BackoffRun.j2 k x0 x6 x27 x8 x11 x59 false)
def impl_BackoffRun.j2 : Nat → List (List Int) → List Int → List Int → Int → List Int → List Int → Bool → Option (List Int × List Int × Bool)
  | 0, _, _, _, _, _, _, _ => none
  | k + 1, x0, x6, x7, x8, x11, x12, x66 => if x66 = true then (impl_BackoffRun.l2 k x0 x6 x7 x8 x11 x12 (([] : List Int)) (x6.length : Int) 0) else (some (x11, x12, true))
def impl_BackoffRun.l2 : Nat → List (List Int) → List Int → List Int → Int → List Int → List Int → List Int → Int → Int → Option (List Int × List Int × Bool)
  | 0, _, _, _, _, _, _, _, _, _ => none
  | k + 1, x0, x6, x7, x8, x11, x12, x13, x69, x70 => if x70 < x69 then (if 0 ≤ x70 then (if x70 < (x6.length : Int) then (if (rd x6 x70) = 0 then (if x13.length < 17592186044416 then (impl_BackoffRun.l2 k x0 x6 x7 x8 x11 x12 (x13 ++ [x70]) x69 (wrap64 (x70 + 1))) else (none)) else (impl_BackoffRun.l2 k x0 x6 x7 x8 x11 x12 x13 x69 (wrap64 (x70 + 1)))) else (none)) else (none)) else (impl_BackoffRun.l3 k x0 x6 x7 x8 x11 x12 x13 (x6.length : Int) 0)
def impl_BackoffRun.l3 : Nat → List (List Int) → List Int → List Int → Int → List Int → List Int → List Int → Int → Int → Option (List Int × List Int × Bool)
  | 0, _, _, _, _, _, _, _, _, _ => none
  | k + 1, x0, x6, x7, x8, x11, x12, x13, x83, x84 => if x84 < x83 then (if 0 ≤ x84 then (if x84 < (x6.length : Int) then (if (x13.length : Int) = 0 then (if (rd x6 x84) > 0 then (impl_BackoffRun.l3 k x0 (x6.set (x84 : Int).toNat (wrap64 ((rd x6 x84) - 1))) x7 x8 x11 x12 x13 x83 (wrap64 (x84 + 1))) else (impl_BackoffRun.l3 k x0 x6 x7 x8 x11 x12 x13 x83 (wrap64 (x84 + 1)))) else (impl_BackoffRun.l3 k x0 x6 x7 x8 x11 x12 x13 x83 (wrap64 (x84 + 1)))) else (none)) else (none)) else (impl_BackoffRun.l4 k x0 x6 x7 x8 x11 x12 x13 (x13.length : Int) 0)
def impl_BackoffRun.l4 : Nat → List (List Int) → List Int → List Int → Int → List Int → List Int → List Int → Int → Int → Option (List Int × List Int × Bool)
  | 0, _, _, _, _, _, _, _, _, _ => none
  | k + 1, x0, x6, x7, x8, x11, x12, x13, x104, x105 => if x105 < x104 then (if 0 ≤ x105 then (if x105 < (x13.length : Int) then (if 0 ≤ (rd x13 x105) then (if (rd x13 x105) < (x7.length : Int) then ((some (x7.set ((rd x13 x105) : Int).toNat (wrap64 ((rd x7 (rd x13 x105)) + 1)) : List Int)).bind fun y210 => (if (x13.length : Int) = 1 then (if (rd x13 x105) < (x12.length : Int) then (if (rd x13 x105) < (x6.length : Int) then (impl_BackoffRun.l4 k x0 (x6.set ((rd x13 x105) : Int).toNat (-1)) y210 (wrap64 (x8 - 1)) x11 (x12.set ((rd x13 x105) : Int).toNat (x11.length : Int)) x13 x104 (wrap64 (x105 + 1))) else (none)) else (none)) else (if (rd x13 x105) < (x0.length : Int) then (if (rd y210 (rd x13 x105)) = ((rd_L1 x0 (rd x13 x105)).length : Int) then (if (rd x13 x105) < (x6.length : Int) then (impl_BackoffRun.l4 k x0 (x6.set ((rd x13 x105) : Int).toNat (-1)) y210 (wrap64 (x8 - 1)) x11 x12 x13 x104 (wrap64 (x105 + 1))) else (none)) else (if 0 ≤ (rd y210 (rd x13 x105)) then (if (rd y210 (rd x13 x105)) < ((rd_L1 x0 (rd x13 x105)).length : Int) then (if (rd x13 x105) < (x6.length : Int) then (impl_BackoffRun.l4 k x0 (x6.set ((rd x13 x105) : Int).toNat (rd (rd_L1 x0 (rd x13 x105)) (rd y210 (rd x13 x105)))) y210 x8 x11 x12 x13 x104 (wrap64 (x105 + 1))) else (none)) else (none)) else (none))) else (none)))) else (none)) else (none)) else (none)) else (none)) else (if x11.length < 17592186044416 then (impl_BackoffRun.l1 k x0 x6 x8 (x11 ++ [(x13.length : Int)]) x7 x12) else (none))
end
def impl_BackoffRun.f (k : Nat) (l0 : List (List Int)) : Option (List Int × List Int × Bool) := (impl_areStations.f (l0.length : Int)).bind fun t173 => (if t173 = true then (if 0 ≤ (l0.length : Int) then (if ((l0.length : Int) : Int).toNat ≤ 35184372088832 then (impl_BackoffRun.l0 k l0 (l0.length : Int) (([] : List Int)) 0 (List.replicate ((l0.length : Int) : Int).toNat 0) l0 (l0.length : Int) 0) else (none)) else (none)) else (some (([] : List Int), ([] : List Int), false)))
theorem impl_BackoffRun.mono_l : ∀ k, (∀ y0 y1 y2 y3 y4 y5 y6 y7, LeO (impl_BackoffRun.l0 k y0 y1 y2 y3 y4 y5 y6 y7) (impl_BackoffRun.l0 (k + 1) y0 y1 y2 y3 y4 y5 y6 y7)) ∧ (∀ y0 y1 y2 y3 y4 y5, LeO (impl_BackoffRun.l1 k y0 y1 y2 y3 y4 y5) (impl_BackoffRun.l1 (k + 1) y0 y1 y2 y3 y4 y5)) ∧ (∀ y0 y1 y2 y3 y4 y5 y6, LeO (impl_BackoffRun.j2 k y0 y1 y2 y3 y4 y5 y6) (impl_BackoffRun.j2 (k + 1) y0 y1 y2 y3 y4 y5 y6)) ∧ (∀ y0 y1 y2 y3 y4 y5 y6 y7 y8, LeO (impl_BackoffRun.l2 k y0 y1 y2 y3 y4 y5 y6 y7 y8) (impl_BackoffRun.l2 (k + 1) y0 y1 y2 y3 y4 y5 y6 y7 y8)) ∧ (∀ y0 y1 y2 y3 y4 y5 y6 y7 y8, LeO (impl_BackoffRun.l3 k y0 y1 y2 y3 y4 y5 y6 y7 y8) (impl_BackoffRun.l3 (k + 1) y0 y1 y2 y3 y4 y5 y6 y7 y8)) ∧ (∀ y0 y1 y2 y3 y4 y5 y6 y7 y8, LeO (impl_BackoffRun.l4 k y0 y1 y2 y3 y4 y5 y6 y7 y8) (impl_BackoffRun.l4 (k + 1) y0 y1 y2 y3 y4 y5 y6 y7 y8))
  | 0 => ⟨fun _ _ _ _ _ _ _ _ r h => by simp [impl_BackoffRun.l0] at h, fun _ _ _ _ _ _ r h => by simp [impl_BackoffRun.l1] at h, fun _ _ _ _ _ _ _ r h => by simp [impl_BackoffRun.j2] at h, fun _ _ _ _ _ _ _ _ _ r h => by simp [impl_BackoffRun.l2] at h, fun _ _ _ _ _ _ _ _ _ r h => by simp [impl_BackoffRun.l3] at h, fun _ _ _ _ _ _ _ _ _ r h => by simp [impl_BackoffRun.l4] at h⟩
  | k + 1 => by
    obtain ⟨ih0, ih1, ih2, ih3, ih4, ih5⟩ := impl_BackoffRun.mono_l k
    refine ⟨?_, ?_, ?_, ?_, ?_, ?_⟩
    · intro y0 y1 y2 y3 y4 y5 y6 y7
      unfold impl_BackoffRun.l0
      repeat' first
      | (with_reducible exact ih0 _ _ _ _ _ _ _ _)
      | (with_reducible exact ih1 _ _ _ _ _ _)
      | (with_reducible exact ih2 _ _ _ _ _ _ _)
      | (with_reducible exact ih3 _ _ _ _ _ _ _ _ _)
      | (with_reducible exact ih4 _ _ _ _ _ _ _ _ _)
      | (with_reducible exact ih5 _ _ _ _ _ _ _ _ _)
      | (with_reducible exact impl_areIn.mono _ _ _ _)
      | (with_reducible exact LeO.refl _)
      | (with_reducible exact LeO.none _)
      | (with_reducible refine LeO.ite ?_ ?_)
      | (with_reducible refine LeO.bind ?_ (fun _ => ?_))
      | exact ih0 _ _ _ _ _ _ _ _
      | exact ih1 _ _ _ _ _ _
      | exact ih2 _ _ _ _ _ _ _
      | exact ih3 _ _ _ _ _ _ _ _ _
      | exact ih4 _ _ _ _ _ _ _ _ _
      | exact ih5 _ _ _ _ _ _ _ _ _
      | exact impl_areIn.mono _ _ _ _
      | exact LeO.none _
      | refine LeO.ite ?_ ?_
      | refine LeO.bind ?_ (fun _ => ?_)
    · intro y0 y1 y2 y3 y4 y5
      unfold impl_BackoffRun.l1
      repeat' first
      | (with_reducible exact ih0 _ _ _ _ _ _ _ _)
      | (with_reducible exact ih1 _ _ _ _ _ _)
      | (with_reducible exact ih2 _ _ _ _ _ _ _)
      | (with_reducible exact ih3 _ _ _ _ _ _ _ _ _)
      | (with_reducible exact ih4 _ _ _ _ _ _ _ _ _)
      | (with_reducible exact ih5 _ _ _ _ _ _ _ _ _)
      | (with_reducible exact impl_areIn.mono _ _ _ _)
      | (with_reducible exact LeO.refl _)
      | (with_reducible exact LeO.none _)
      | (with_reducible refine LeO.ite ?_ ?_)
      | (with_reducible refine LeO.bind ?_ (fun _ => ?_))
      | exact ih0 _ _ _ _ _ _ _ _
      | exact ih1 _ _ _ _ _ _
      | exact ih2 _ _ _ _ _ _ _
      | exact ih3 _ _ _ _ _ _ _ _ _
      | exact ih4 _ _ _ _ _ _ _ _ _
      | exact ih5 _ _ _ _ _ _ _ _ _
      | exact impl_areIn.mono _ _ _ _
      | exact LeO.none _
      | refine LeO.ite ?_ ?_
      | refine LeO.bind ?_ (fun _ => ?_)
    · intro y0 y1 y2 y3 y4 y5 y6
      unfold impl_BackoffRun.j2
      repeat' first
      | (with_reducible exact ih0 _ _ _ _ _ _ _ _)
      | (with_reducible exact ih1 _ _ _ _ _ _)
      | (with_reducible exact ih2 _ _ _ _ _ _ _)
      | (with_reducible exact ih3 _ _ _ _ _ _ _ _ _)
      | (with_reducible exact ih4 _ _ _ _ _ _ _ _ _)
      | (with_reducible exact ih5 _ _ _ _ _ _ _ _ _)
      | (with_reducible exact impl_areIn.mono _ _ _ _)
      | (with_reducible exact LeO.refl _)
      | (with_reducible exact LeO.none _)
      | (with_reducible refine LeO.ite ?_ ?_)
      | (with_reducible refine LeO.bind ?_ (fun _ => ?_))
      | exact ih0 _ _ _ _ _ _ _ _
      | exact ih1 _ _ _ _ _ _
      | exact ih2 _ _ _ _ _ _ _
      | exact ih3 _ _ _ _ _ _ _ _ _
      | exact ih4 _ _ _ _ _ _ _ _ _
      | exact ih5 _ _ _ _ _ _ _ _ _
      | exact impl_areIn.mono _ _ _ _
      | exact LeO.none _
      | refine LeO.ite ?_ ?_
      | refine LeO.bind ?_ (fun _ => ?_)
    · intro y0 y1 y2 y3 y4 y5 y6 y7 y8
      unfold impl_BackoffRun.l2
      repeat' first
      | (with_reducible exact ih0 _ _ _ _ _ _ _ _)
      | (with_reducible exact ih1 _ _ _ _ _ _)
      | (with_reducible exact ih2 _ _ _ _ _ _ _)
      | (with_reducible exact ih3 _ _ _ _ _ _ _ _ _)
      | (with_reducible exact ih4 _ _ _ _ _ _ _ _ _)
      | (with_reducible exact ih5 _ _ _ _ _ _ _ _ _)
      | (with_reducible exact impl_areIn.mono _ _ _ _)
      | (with_reducible exact LeO.refl _)
      | (with_reducible exact LeO.none _)
      | (with_reducible refine LeO.ite ?_ ?_)
      | (with_reducible refine LeO.bind ?_ (fun _ => ?_))
      | exact ih0 _ _ _ _ _ _ _ _
      | exact ih1 _ _ _ _ _ _
      | exact ih2 _ _ _ _ _ _ _
      | exact ih3 _ _ _ _ _ _ _ _ _
      | exact ih4 _ _ _ _ _ _ _ _ _
      | exact ih5 _ _ _ _ _ _ _ _ _
      | exact impl_areIn.mono _ _ _ _
      | exact LeO.none _
      | refine LeO.ite ?_ ?_
      | refine LeO.bind ?_ (fun _ => ?_)
    · intro y0 y1 y2 y3 y4 y5 y6 y7 y8
      unfold impl_BackoffRun.l3
      repeat' first
      | (with_reducible exact ih0 _ _ _ _ _ _ _ _)
      | (with_reducible exact ih1 _ _ _ _ _ _)
      | (with_reducible exact ih2 _ _ _ _ _ _ _)
      | (with_reducible exact ih3 _ _ _ _ _ _ _ _ _)
      | (with_reducible exact ih4 _ _ _ _ _ _ _ _ _)
      | (with_reducible exact ih5 _ _ _ _ _ _ _ _ _)
      | (with_reducible exact impl_areIn.mono _ _ _ _)
      | (with_reducible exact LeO.refl _)
      | (with_reducible exact LeO.none _)
      | (with_reducible refine LeO.ite ?_ ?_)
      | (with_reducible refine LeO.bind ?_ (fun _ => ?_))
      | exact ih0 _ _ _ _ _ _ _ _
      | exact ih1 _ _ _ _ _ _
      | exact ih2 _ _ _ _ _ _ _
      | exact ih3 _ _ _ _ _ _ _ _ _
      | exact ih4 _ _ _ _ _ _ _ _ _
      | exact ih5 _ _ _ _ _ _ _ _ _
      | exact impl_areIn.mono _ _ _ _
      | exact LeO.none _
      | refine LeO.ite ?_ ?_
      | refine LeO.bind ?_ (fun _ => ?_)
    · intro y0 y1 y2 y3 y4 y5 y6 y7 y8
      unfold impl_BackoffRun.l4
      repeat' first
      | (with_reducible exact ih0 _ _ _ _ _ _ _ _)
      | (with_reducible exact ih1 _ _ _ _ _ _)
      | (with_reducible exact ih2 _ _ _ _ _ _ _)
      | (with_reducible exact ih3 _ _ _ _ _ _ _ _ _)
      | (with_reducible exact ih4 _ _ _ _ _ _ _ _ _)
      | (with_reducible exact ih5 _ _ _ _ _ _ _ _ _)
      | (with_reducible exact impl_areIn.mono _ _ _ _)
      | (with_reducible exact LeO.refl _)
      | (with_reducible exact LeO.none _)
      | (with_reducible refine LeO.ite ?_ ?_)
      | (with_reducible refine LeO.bind ?_ (fun _ => ?_))
      | exact ih0 _ _ _ _ _ _ _ _
      | exact ih1 _ _ _ _ _ _
      | exact ih2 _ _ _ _ _ _ _
      | exact ih3 _ _ _ _ _ _ _ _ _
      | exact ih4 _ _ _ _ _ _ _ _ _
      | exact ih5 _ _ _ _ _ _ _ _ _
      | exact impl_areIn.mono _ _ _ _
      | exact LeO.none _
      | refine LeO.ite ?_ ?_
      | refine LeO.bind ?_ (fun _ => ?_)
theorem impl_BackoffRun.mono : ∀ a0 k, LeO (impl_BackoffRun.f k a0) (impl_BackoffRun.f (k + 1) a0) := by
  intro a0 k
  obtain ⟨ih0, ih1, ih2, ih3, ih4, ih5⟩ := impl_BackoffRun.mono_l k
  unfold impl_BackoffRun.f
  repeat' first
      | (with_reducible exact ih0 _ _ _ _ _ _ _ _)
      | (with_reducible exact ih1 _ _ _ _ _ _)
      | (with_reducible exact ih2 _ _ _ _ _ _ _)
      | (with_reducible exact ih3 _ _ _ _ _ _ _ _ _)
      | (with_reducible exact ih4 _ _ _ _ _ _ _ _ _)
      | (with_reducible exact ih5 _ _ _ _ _ _ _ _ _)
      | (with_reducible exact impl_areIn.mono _ _ _ _)
      | (with_reducible exact LeO.refl _)
      | (with_reducible exact LeO.none _)
      | (with_reducible refine LeO.ite ?_ ?_)
      | (with_reducible refine LeO.bind ?_ (fun _ => ?_))
      | exact ih0 _ _ _ _ _ _ _ _
      | exact ih1 _ _ _ _ _ _
      | exact ih2 _ _ _ _ _ _ _
      | exact ih3 _ _ _ _ _ _ _ _ _
      | exact ih4 _ _ _ _ _ _ _ _ _
      | exact ih5 _ _ _ _ _ _ _ _ _
      | exact impl_areIn.mono _ _ _ _
      | exact LeO.none _
      | refine LeO.ite ?_ ?_
      | refine LeO.bind ?_ (fun _ => ?_)
def impl_BackoffRun.T32 : Bool × List (List Nat × List Nat) := (true, [([], []), ([], []), ([], []), ([], []), ([2, 3], [2, 3]), ([4], [4]), ([], []), ([], []), ([6, 7], [6, 7]), ([8], [8]), ([5, 9], [5, 9]), ([10], [10]), ([0, 1, 0, 1, 2, 3, 4, 5, 6, 7, 8, 9, 10, 11], [0, 1]), ([12, 11, 0, 1, 2, 3, 4, 5, 6, 7, 8, 9, 10, 11], [11, 12])])
def impl_BackoffRun.B32 : List Nat := [0, 0, 0, 0, 12, 28, 0, 0, 192, 448, 1020, 2044, 4095, 8191]
theorem impl_BackoffRun.tab32 : rtab .any (opsOf Try.f7 32) = impl_BackoffRun.T32 := by kernel_rfl
theorem impl_BackoffRun.bits32 : waitsOk impl_BackoffRun.T32.2 impl_BackoffRun.B32 = true := by kernel_rfl
def impl_BackoffRun.T37 : Bool × List (List Nat × List Nat) := (true, [([], []), ([], []), ([0, 1], [0, 1]), ([2], [2]), ([], []), ([], []), ([4, 5], [4, 5]), ([6], [6]), ([7], [7]), ([3, 8], [3, 8]), ([9], [9])])
def impl_BackoffRun.B37 : List Nat := [0, 0, 3, 7, 0, 0, 48, 112, 240, 511, 1023]
theorem impl_BackoffRun.tab37 : rtab .any (opsOf Try.f7 37) = impl_BackoffRun.T37 := by kernel_rfl
theorem impl_BackoffRun.bits37 : waitsOk impl_BackoffRun.T37.2 impl_BackoffRun.B37 = true := by kernel_rfl
set_option maxHeartbeats 8000000 in
set_option maxRecDepth 100000 in
theorem impl_BackoffRun.calls (k : Nat) (A0 : Option Addr) (c0 : Nat) (l0 : List (List Int)) (r1 : List Int) (r2 : List Int) (r3 : Bool) (w : World) (hr0 : Kd.C (Kd.slice 2 (Kd.int .i64)) w A0 l0.length l0) (hc0 : l0.length ≤ c0) (h : impl_BackoffRun.f k l0 = some (r1, r2, r3)) :
    Calls Try.prog 7 #[.slice A0 l0.length c0] w fun e w' => ∃ v0_ v1_ : Value, e = .returned (.tuple #[v0_, v1_, .bool r3]) ∧ Kd.R (Kd.int .i64) 2 w' w.heap.size (fun k_ => some k_ ≠ (v1_ : Value).ownBlock) v0_ r1 ∧ Kd.R (Kd.int .i64) 2 w' w.heap.size (fun k_ => some k_ ≠ (v0_ : Value).ownBlock) v1_ r2 ∧ Below w.heap.size w w' := by
  have HR0 := Aside0.mk hr0
  have HC0 := Aside0.mk hc0
  clear hr0 hc0
  have HB := Aside0.mk (Below.refl w.heap.size w)
  have H : ((impl_areStations.f (l0.length : Int)).bind fun t173 => (if t173 = true then (if 0 ≤ (l0.length : Int) then (if ((l0.length : Int) : Int).toNat ≤ 35184372088832 then (impl_BackoffRun.l0 k l0 (l0.length : Int) (([] : List Int)) 0 (List.replicate ((l0.length : Int) : Int).toNat 0) l0 (l0.length : Int) 0) else (none)) else (none)) else (some (([] : List Int), ([] : List Int), false)))) = some (r1, r2, r3) := h
  clear h
  replace H := Option.bind_eq_some_iff.mp H
  obtain ⟨t173, A20, H⟩ := H
  replace H : (if t173 = true then (if 0 ≤ (l0.length : Int) then (if ((l0.length : Int) : Int).toNat ≤ 35184372088832 then (impl_BackoffRun.l0 k l0 (l0.length : Int) (([] : List Int)) 0 (List.replicate ((l0.length : Int) : Int).toNat 0) l0 (l0.length : Int) 0) else (none)) else (none)) else (some (([] : List Int), ([] : List Int), false))) = some (r1, r2, r3) := H
  have A2 := Aside0.mk A20
  clear A20
  by_cases c3 : t173 = true
  · subst c3
    have H1 : (if 0 ≤ (l0.length : Int) then (if ((l0.length : Int) : Int).toNat ≤ 35184372088832 then (impl_BackoffRun.l0 k l0 (l0.length : Int) (([] : List Int)) 0 (List.replicate ((l0.length : Int) : Int).toNat 0) l0 (l0.length : Int) 0) else (none)) else (none)) = some (r1, r2, r3) := by rw [if_pos rfl] at H; exact H
    clear H
    have H := H1
    clear H1
    obtain ⟨y174, hy174⟩ : ∃ y_ : List Int, y_ = (([] : List Int)) := ⟨_, rfl⟩
    replace H : (if 0 ≤ (l0.length : Int) then (if ((l0.length : Int) : Int).toNat ≤ 35184372088832 then (impl_BackoffRun.l0 k l0 (l0.length : Int) y174 0 (List.replicate ((l0.length : Int) : Int).toNat 0) l0 (l0.length : Int) 0) else (none)) else (none)) = some (r1, r2, r3) := by first | (rw [hy174]; with_reducible exact H) | (have H2_ := (Option.bind_some _ _).symm.trans H; rw [hy174]; with_reducible exact H2_) | (have H2_ := (Option.bind_some _ _).symm.trans H; with_reducible exact H2_) | with_reducible exact H | (rw [hy174]; exact H) | exact H
    have Ny174 := Aside0.mk hy174
    clear hy174
    by_cases c4 : 0 ≤ (l0.length : Int)
    · rw [if_pos c4] at H
      have c4b0 := eq_true c4
      have c4b1 : decide (0 ≤ (l0.length : Int)) = true := decide_eq_true c4
      clear c4
      by_cases c5 : ((l0.length : Int) : Int).toNat ≤ 35184372088832
      · rw [if_pos c5] at H
        have c5b0 := eq_true c5
        have c5b1 : decide (((l0.length : Int) : Int).toNat ≤ 35184372088832) = true := decide_eq_true c5
        clear c5
        obtain ⟨y177, hy177⟩ : ∃ y_ : List Int, y_ = (List.replicate ((l0.length : Int) : Int).toNat 0) := ⟨_, rfl⟩
        replace H : (impl_BackoffRun.l0 k l0 (l0.length : Int) y174 0 y177 l0 (l0.length : Int) 0) = some (r1, r2, r3) := by first | (rw [hy177]; with_reducible exact H) | (have H2_ := (Option.bind_some _ _).symm.trans H; rw [hy177]; with_reducible exact H2_) | (have H2_ := (Option.bind_some _ _).symm.trans H; with_reducible exact H2_) | with_reducible exact H | (rw [hy177]; exact H) | exact H
        have Ny177 := Aside0.mk hy177
        clear hy177
        have H' := Aside0.mk H
        clear H
        go_enter Try.func7, Try.ntmps7
        try go_wp2_with (first | ((with_reducible refine gate_callee (f := 16) rfl ?_); refine goesL_ (some 23) rfl rfl Try.func16 (by kernel_rfl) rfl #[.int .i64 (l0.length : Int)] rfl (by (try simp only [List.map_toArray, List.map_cons, List.map_nil]); first | done | rfl | (simp only [List.length_drop, List.length_take]; rfl)) ?_; (with_reducible refine (impl_areStations.calls (l0.length : Int) true _ A2.out).mono ?_); rintro e w' ⟨rfl, ⟨nd, rfl⟩⟩; refine ⟨_, rfl, ?_⟩))
        have n0_ := Aside0.mk (below_drew1 (pw_below_drewN HB.out nd))
        clear HB
        have HB := n0_
        clear n0_
        refine start_ (n := 6) (S := fun w' => True) (ds := []) #[false, false, false, false, false, false] (by kernel_rfl) rfl rfl trivial (fun hHeld => ?_)
        generalize (w.drewN nd).drew = w6 at HB hHeld ⊢
        refine pure_ (i := 1) (N := some 26) (v := ?_) (a' := ?_) #[false, true, false, false, false, false] rfl rfl (by kernel_rfl) (fun _ _ _ h => h) (Or.inl ⟨by rfl, ?_⟩) ?_ ?_
        rotate_left
        · intro w'
          go_simp
          with_reducible rfl
        rotate_left
        · simp only [Act.put, List.setIfInBounds_toArray, List.set_cons_zero, List.set_cons_succ, i64_w, i32_w]
          rfl
        refine join_ (σ := Value × Value) 2 #[true, true, true, true, false, false] (fun s_ => [(25, s_.1), (27, s_.2), (6, s_.1)]) (fun s_ w' => (Kd.R (Kd.int .i64) 2 w' w.heap.size (fun _ => True) s_.1 y174) ∧ (Kd.R (Kd.int .i64) 3 w' w.heap.size (fun _ => True) s_.2 y177) ∧ (Below w.heap.size w w')) ?_ ?_
        rotate_left
        · intro hCont
          refine two_ (i := 0) (j := 2) (Ni := some 25) (Nj := some 27) #[true, true, false, false, false, false] #[false, true, true, false, false, false] rfl rfl rfl rfl (by kernel_rfl) (by decide) (by decide) (fun K hK => ?_) (fun K hK => ?_)
          · skip
            refine Kd.R_lit_step (Kd.int .i64) _ 2 ?hg (N := 25) ?hd (xs := ([] : List Int)) (inner := []) (ok := fun _ => True) (okp := fun _ => True) ?hr ?hp (fun _ hk => hk) trivial (Below.refl _ _) (Nat.le_refl _) (by simp) ?_; (case hd => rfl); (case hg => rfl); (case hr => first | (go_simp; done) | (go_simp; rfl)); (case hp => exact (Reps.none _ _))
            intro v175 w7 ho8 hb hg_ hnew_
            clear hg_ hnew_
            (first | rw [← Ny174.out] at ho8 | (simp only [Int.reduceToNat] at ho8; rw [← Ny174.out] at ho8))
            have n0_ := Aside0.mk (Kd.R_lower ho8 (below_size (by repeat (first | (with_reducible first | exact HB.out | apply below_alloc | apply pw_below_drewN | apply below_drew1) | exact HB.out))))
            have n1_ := Aside0.mk (below_step (by repeat (first | (with_reducible first | exact HB.out | apply below_alloc | apply pw_below_drewN | apply below_drew1) | exact HB.out)) hb)
            clear HB
            have HO176 := n0_
            have HB := n1_
            clear n0_ n1_
            clear hb ho8
            refine hK.out _ _ trivial (fun hHeld => ?_)
            clear hK K
            refine norm_ (a' := ?_) ?_ ?_
            rotate_left
            · show Act.put _ (some 25) _ = _
              simp only [Act.put, List.setIfInBounds_toArray, List.set_cons_zero, List.set_cons_succ, i64_w, i32_w]
              rfl
            refine pure_ (i := 3) (N := some 6) (v := ?_) (a' := ?_) #[true, true, false, true, false, false] rfl rfl (by kernel_rfl) (fun _ _ _ h => h) (Or.inl ⟨by rfl, ?_⟩) ?_ ?_
            rotate_left
            · intro w'
              go_simp
              with_reducible rfl
            rotate_left
            · simp only [Act.put, List.setIfInBounds_toArray, List.set_cons_zero, List.set_cons_succ, i64_w, i32_w]
              rfl
            refine one_ (i := 2) (N := some 27) #[true, true, true, true, false, false] rfl rfl (by kernel_rfl) (by decide) (fun K hK => ?_)
            refine Kd.R_make_step (Kd.int .i64) _ 3 (by rfl) (N := 27) rfl 32 _ _ rfl (l0.length : Int) rfl rfl Try.underlying32 (.int .i64 0) 8 info3 rfl (by decide) (by omega) 0 (ok := fun _ => True) (okp := fun _ => True) rfl (fun _ hk => hk) trivial (of_decide_eq_true (by first | (with_reducible assumption) | assumption)) (Nat.le_trans (Nat.mul_le_mul_right _ (of_decide_eq_true (by first | (with_reducible assumption) | assumption) : (l0.length : Int).toNat ≤ 35184372088832)) (by omega)) (Below.refl _ _) (Nat.le_refl _) ?_
            intro v178 w9 ho10 hb hg_ hnew_
            clear hg_ hnew_
            (first | rw [← Ny177.out] at ho10 | (simp only [Int.reduceToNat] at ho10; rw [← Ny177.out] at ho10))
            have n0_ := Aside0.mk (Kd.R_below (by (with_reducible repeat (first | apply Kd.R_alloc | apply Kd.R_drewN | apply Kd.R_drew)); exact HO176.out) hb)
            have n1_ := Aside0.mk (Kd.R_lower ho10 (below_size (by repeat (first | (with_reducible first | exact HB.out | apply below_alloc | apply pw_below_drewN | apply below_drew1) | exact HB.out))))
            have n2_ := Aside0.mk (below_step (by repeat (first | (with_reducible first | exact HB.out | apply below_alloc | apply pw_below_drewN | apply below_drew1) | exact HB.out)) hb)
            clear HO176
            clear HB
            have HO176 := n0_
            have HO179 := n1_
            have HB := n2_
            clear n0_ n1_ n2_
            clear hb ho10
            refine hK.out _ _ trivial (fun hHeld => ?_)
            clear hK K
            refine norm_ (a' := ?_) ?_ ?_
            rotate_left
            · show Act.put _ (some 27) _ = _
              simp only [Act.put, List.setIfInBounds_toArray, List.set_cons_zero, List.set_cons_succ, i64_w, i32_w]
              rfl
            exact norm_ (by simp only [putAll, Act.put, List.setIfInBounds_toArray, List.set_cons_zero, List.set_cons_succ]) (hCont (v175, v178) _ ⟨(by (with_reducible repeat (first | apply Kd.R_alloc | apply Kd.R_drewN | apply Kd.R_drew)); exact HO176.out), (by (with_reducible repeat (first | apply Kd.R_alloc | apply Kd.R_drewN | apply Kd.R_drew)); exact HO179.out), (by repeat (first | (with_reducible first | exact HB.out | apply below_alloc | apply pw_below_drewN | apply below_drew1) | exact HB.out))⟩)
          · skip
            refine Kd.R_make_step (Kd.int .i64) _ 3 (by rfl) (N := 27) rfl 32 _ _ rfl (l0.length : Int) rfl rfl Try.underlying32 (.int .i64 0) 8 info3 rfl (by decide) (by omega) 0 (ok := fun _ => True) (okp := fun _ => True) rfl (fun _ hk => hk) trivial (of_decide_eq_true (by first | (with_reducible assumption) | assumption)) (Nat.le_trans (Nat.mul_le_mul_right _ (of_decide_eq_true (by first | (with_reducible assumption) | assumption) : (l0.length : Int).toNat ≤ 35184372088832)) (by omega)) (Below.refl _ _) (Nat.le_refl _) ?_
            intro v178 w7 ho8 hb hg_ hnew_
            clear hg_ hnew_
            (first | rw [← Ny177.out] at ho8 | (simp only [Int.reduceToNat] at ho8; rw [← Ny177.out] at ho8))
            have n0_ := Aside0.mk (Kd.R_lower ho8 (below_size (by repeat (first | (with_reducible first | exact HB.out | apply below_alloc | apply pw_below_drewN | apply below_drew1) | exact HB.out))))
            have n1_ := Aside0.mk (below_step (by repeat (first | (with_reducible first | exact HB.out | apply below_alloc | apply pw_below_drewN | apply below_drew1) | exact HB.out)) hb)
            clear HB
            have HO179 := n0_
            have HB := n1_
            clear n0_ n1_
            clear hb ho8
            refine hK.out _ _ trivial (fun hHeld => ?_)
            clear hK K
            refine norm_ (a' := ?_) ?_ ?_
            rotate_left
            · show Act.put _ (some 27) _ = _
              simp only [Act.put, List.setIfInBounds_toArray, List.set_cons_zero, List.set_cons_succ, i64_w, i32_w]
              rfl
            refine one_ (i := 0) (N := some 25) #[true, true, true, false, false, false] rfl rfl (by kernel_rfl) (by decide) (fun K hK => ?_)
            refine Kd.R_lit_step (Kd.int .i64) _ 2 ?hg (N := 25) ?hd (xs := ([] : List Int)) (inner := []) (ok := fun _ => True) (okp := fun _ => True) ?hr ?hp (fun _ hk => hk) trivial (Below.refl _ _) (Nat.le_refl _) (by simp) ?_; (case hd => rfl); (case hg => rfl); (case hr => first | (go_simp; done) | (go_simp; rfl)); (case hp => exact (Reps.none _ _))
            intro v175 w9 ho10 hb hg_ hnew_
            clear hg_ hnew_
            (first | rw [← Ny174.out] at ho10 | (simp only [Int.reduceToNat] at ho10; rw [← Ny174.out] at ho10))
            have n0_ := Aside0.mk (Kd.R_below (by (with_reducible repeat (first | apply Kd.R_alloc | apply Kd.R_drewN | apply Kd.R_drew)); exact HO179.out) hb)
            have n1_ := Aside0.mk (Kd.R_lower ho10 (below_size (by repeat (first | (with_reducible first | exact HB.out | apply below_alloc | apply pw_below_drewN | apply below_drew1) | exact HB.out))))
            have n2_ := Aside0.mk (below_step (by repeat (first | (with_reducible first | exact HB.out | apply below_alloc | apply pw_below_drewN | apply below_drew1) | exact HB.out)) hb)
            clear HO179
            clear HB
            have HO179 := n0_
            have HO176 := n1_
            have HB := n2_
            clear n0_ n1_ n2_
            clear hb ho10
            refine hK.out _ _ trivial (fun hHeld => ?_)
            clear hK K
            refine norm_ (a' := ?_) ?_ ?_
            rotate_left
            · show Act.put _ (some 25) _ = _
              simp only [Act.put, List.setIfInBounds_toArray, List.set_cons_zero, List.set_cons_succ, i64_w, i32_w]
              rfl
            refine pure_ (i := 3) (N := some 6) (v := ?_) (a' := ?_) #[true, true, true, true, false, false] rfl rfl (by kernel_rfl) (fun _ _ _ h => h) (Or.inl ⟨by rfl, ?_⟩) ?_ ?_
            rotate_left
            · intro w'
              go_simp
              with_reducible rfl
            rotate_left
            · simp only [Act.put, List.setIfInBounds_toArray, List.set_cons_zero, List.set_cons_succ, i64_w, i32_w]
              rfl
            exact norm_ (by simp only [putAll, Act.put, List.setIfInBounds_toArray, List.set_cons_zero, List.set_cons_succ]) (hCont (v175, v178) _ ⟨(by (with_reducible repeat (first | apply Kd.R_alloc | apply Kd.R_drewN | apply Kd.R_drew)); exact HO176.out), (by (with_reducible repeat (first | apply Kd.R_alloc | apply Kd.R_drewN | apply Kd.R_drew)); exact HO179.out), (by repeat (first | (with_reducible first | exact HB.out | apply below_alloc | apply pw_below_drewN | apply below_drew1) | exact HB.out))⟩)
        rintro ⟨v175, v178⟩ w11 ⟨h0_, h1_, h2_⟩
        have n0_ : Aside0 (Kd.R (Kd.int .i64) 2 w11 w.heap.size (fun _ => True) v175 y174) := ⟨h0_⟩
        have n1_ : Aside0 (Kd.R (Kd.int .i64) 3 w11 w.heap.size (fun _ => True) v178 y177) := ⟨h1_⟩
        have n2_ : Aside0 (Below w.heap.size w w11) := ⟨h2_⟩
        clear HB
        clear h0_ h1_ h2_
        have HO176 := n0_
        have HO179 := n1_
        have HB := n2_
        clear n0_ n1_ n2_
        have hHeld := trivial
        refine norm_ (a' := ?_) ?_ ?_
        rotate_left
        · simp only [putAll, Act.put, List.setIfInBounds_toArray, List.set_cons_zero, List.set_cons_succ]
          rfl
        refine pure_ (i := 4) (N := some 7) (v := ?_) (a' := ?_) #[true, true, true, true, true, false] rfl rfl (by kernel_rfl) (fun _ _ _ h => h) (Or.inl ⟨by rfl, ?_⟩) ?_ ?_
        rotate_left
        · intro w'
          go_simp
          with_reducible rfl
        rotate_left
        · simp only [Act.put, List.setIfInBounds_toArray, List.set_cons_zero, List.set_cons_succ, i64_w, i32_w]
          rfl
        refine pure_ (i := 5) (N := some 8) (v := ?_) (a' := ?_) #[true, true, true, true, true, true] rfl rfl (by kernel_rfl) (fun _ _ _ h => h) (Or.inl ⟨by rfl, ?_⟩) ?_ ?_
        rotate_left
        · intro w'
          go_simp
          with_reducible rfl
        rotate_left
        · simp only [Act.put, List.setIfInBounds_toArray, List.set_cons_zero, List.set_cons_succ, i64_w, i32_w]
          rfl
        refine done_ (by kernel_rfl) ?_
        try go_wp2
        go_loopg [6, 8, 30] k (fun kq v6 v8 v30 w' => ∃ (x6_1 : List Int) (x8_1 : Int) (x30_1 : Int), v8 = .int .i64 x8_1 ∧ v30 = .int .i64 x30_1 ∧ Aside0 (impl_BackoffRun.l0 kq l0 (l0.length : Int) x6_1 x8_1 y177 l0 (l0.length : Int) x30_1 = some (r1, r2, r3)) ∧ Aside0 (kq ≤ k) ∧ Aside0 (Kd.R (Kd.int .i64) 2 w' w.heap.size (fun _ => True) v6 x6_1) ∧ Aside0 (Kd.R (Kd.int .i64) 3 w' w.heap.size (fun _ => True) v178 y177) ∧ Aside0 (Below w.heap.size w w'))
        case atStart => exact ⟨(y174), (0), (0), (by first | rfl | (simp; done) | (simp [*]; done)), (by first | rfl | (simp; done) | (simp [*]; done)), H', ⟨Nat.le_refl _⟩, ⟨by (with_reducible repeat (first | apply Kd.R_alloc | apply Kd.R_drewN | apply Kd.R_drew)); exact HO176.out⟩, ⟨by (with_reducible repeat (first | apply Kd.R_alloc | apply Kd.R_drewN | apply Kd.R_drew)); exact HO179.out⟩, ⟨by repeat (first | (with_reducible first | exact HB.out | apply below_alloc | apply pw_below_drewN | apply below_drew1) | exact HB.out)⟩⟩
        case round => as_aux_lemma =>
          clear H'
          try clear c1
          try clear p2
          try clear c3
          try clear c4
          try clear c4b0
          try clear c4b1
          try clear c5
          try clear c5b0
          try clear c5b1
          try clear c7
          obtain ⟨x6_1, x8_1, x30_1, rfl, rfl, HA, HK1, HO_6, HO_27, HB⟩ := hrel
          cases gk with
          | zero => exact absurd HA.out (by simp [impl_BackoffRun.l0])
          | succ k1 =>
            have H := HA.out
            clear HA
            simp only [impl_BackoffRun.l0] at H
            by_cases c12 : x30_1 < (l0.length : Int)
            · rw [if_pos c12] at H
              have c12b0 : decide (x30_1 < (l0.length : Int)) = true := decide_eq_true c12
              clear c12
              by_cases c13 : 0 ≤ x30_1
              · rw [if_pos c13] at H
                have c13b0 : decide (0 ≤ x30_1) = true := decide_eq_true c13
                clear c13
                by_cases c14 : x30_1 < (l0.length : Int)
                · rw [if_pos c14] at H
                  have c14b0 : decide (x30_1 < (l0.length : Int)) = true := decide_eq_true c14
                  clear c14
                  by_cases c15 : ((rd_L1 l0 x30_1).length : Int) < 1
                  · rw [if_pos c15] at H
                    have c15b0 : decide (((rd_L1 l0 x30_1).length : Int) < 1) = true := decide_eq_true c15
                    have c15b1 : decide ((rd_L1 l0 x30_1).length < 1) = true := decide_eq_true (by omega)
                    clear c15
                    simp only [Option.some.injEq, Prod.mk.injEq] at H
                    obtain ⟨rfl, rfl, rfl⟩ := H
                    have p180 : 0 ≤ (x30_1 : Int) := of_decide_eq_true (by first | (with_reducible assumption) | assumption)
                    have q180 : x30_1 < (l0.length : Int) := of_decide_eq_true (by first | (with_reducible assumption) | assumption)
                    obtain ⟨ad180, A180_0, c180_0, e180, hx180_0, hl180_0, hi180_0⟩ := at_L1 HR0.out x30_1 p180 q180
                    cases e180
                    replace hx180_0 := (HB.out.cell (World.block_lt_of_cell? w _ hx180_0)).trans hx180_0
                    have HR180_0 := Aside0.mk hi180_0
                    have HC180_0 := Aside0.mk hl180_0
                    clear hi180_0 hl180_0
                    replace p180 := eq_true p180
                    replace q180 := eq_true q180
                    go_wp2
                    go_ret3
                    exact ⟨_, _, by first | rfl | (simp [errW_none, errW_some] <;> rfl) | (simp [*, errW_none, errW_some] <;> rfl), by first | exact Kd.R_nil _ _ _ _ _ | exact Kd.N_nil _ _ _ _ _ | exact Kd.V_nil _ _ _ _ _ | exact Kd.Q_nil _ _ _ _ _ | exact Kd.S_nil _ _ _ _ _, by first | exact Kd.R_nil _ _ _ _ _ | exact Kd.N_nil _ _ _ _ _ | exact Kd.V_nil _ _ _ _ _ | exact Kd.Q_nil _ _ _ _ _ | exact Kd.S_nil _ _ _ _ _, by repeat (first | (with_reducible first | exact HB.out | apply below_alloc | apply pw_below_drewN | apply below_drew1) | exact HB.out)⟩
                  · rw [if_neg c15] at H
                    have c15b0 : decide (((rd_L1 l0 x30_1).length : Int) < 1) = false := decide_eq_false c15
                    have c15b1 : decide ((rd_L1 l0 x30_1).length < 1) = false := decide_eq_false (by omega)
                    clear c15
                    by_cases c16 : ((rd_L1 l0 x30_1).length : Int) > 40
                    · rw [if_pos c16] at H
                      have c16b0 : decide (40 < ((rd_L1 l0 x30_1).length : Int)) = true := decide_eq_true c16
                      have c16b1 : decide (40 < (rd_L1 l0 x30_1).length) = true := decide_eq_true (by omega)
                      clear c16
                      simp only [Option.some.injEq, Prod.mk.injEq] at H
                      obtain ⟨rfl, rfl, rfl⟩ := H
                      have p180 : 0 ≤ (x30_1 : Int) := of_decide_eq_true (by first | (with_reducible assumption) | assumption)
                      have q180 : x30_1 < (l0.length : Int) := of_decide_eq_true (by first | (with_reducible assumption) | assumption)
                      obtain ⟨ad180, A180_0, c180_0, e180, hx180_0, hl180_0, hi180_0⟩ := at_L1 HR0.out x30_1 p180 q180
                      cases e180
                      replace hx180_0 := (HB.out.cell (World.block_lt_of_cell? w _ hx180_0)).trans hx180_0
                      have HR180_0 := Aside0.mk hi180_0
                      have HC180_0 := Aside0.mk hl180_0
                      clear hi180_0 hl180_0
                      replace p180 := eq_true p180
                      replace q180 := eq_true q180
                      go_wp2
                      go_ret3
                      exact ⟨_, _, by first | rfl | (simp [errW_none, errW_some] <;> rfl) | (simp [*, errW_none, errW_some] <;> rfl), by first | exact Kd.R_nil _ _ _ _ _ | exact Kd.N_nil _ _ _ _ _ | exact Kd.V_nil _ _ _ _ _ | exact Kd.Q_nil _ _ _ _ _ | exact Kd.S_nil _ _ _ _ _, by first | exact Kd.R_nil _ _ _ _ _ | exact Kd.N_nil _ _ _ _ _ | exact Kd.V_nil _ _ _ _ _ | exact Kd.Q_nil _ _ _ _ _ | exact Kd.S_nil _ _ _ _ _, by repeat (first | (with_reducible first | exact HB.out | apply below_alloc | apply pw_below_drewN | apply below_drew1) | exact HB.out)⟩
                    · rw [if_neg c16] at H
                      have c16b0 : decide (40 < ((rd_L1 l0 x30_1).length : Int)) = false := decide_eq_false c16
                      have c16b1 : decide (40 < (rd_L1 l0 x30_1).length) = false := decide_eq_false (by omega)
                      clear c16
                      replace H := Option.bind_eq_some_iff.mp H
                      obtain ⟨t181, A170, H⟩ := H
                      replace H : (if t181 = true then (if 0 < ((rd_L1 l0 x30_1).length : Int) then (if x6_1.length < 17592186044416 then (impl_BackoffRun.l0 k1 l0 (l0.length : Int) (x6_1 ++ [rd (rd_L1 l0 x30_1) 0]) (wrap64 (x8_1 + 1)) y177 l0 (l0.length : Int) (wrap64 (x30_1 + 1))) else (none)) else (none)) else (some (([] : List Int), ([] : List Int), false))) = some (r1, r2, r3) := H
                      have A17 := Aside0.mk A170
                      clear A170
                      by_cases c18 : t181 = true
                      · subst c18
                        have H1 : (if 0 < ((rd_L1 l0 x30_1).length : Int) then (if x6_1.length < 17592186044416 then (impl_BackoffRun.l0 k1 l0 (l0.length : Int) (x6_1 ++ [rd (rd_L1 l0 x30_1) 0]) (wrap64 (x8_1 + 1)) y177 l0 (l0.length : Int) (wrap64 (x30_1 + 1))) else (none)) else (none)) = some (r1, r2, r3) := by rw [if_pos rfl] at H; exact H
                        clear H
                        have H := H1
                        clear H1
                        by_cases c19 : 0 < ((rd_L1 l0 x30_1).length : Int)
                        · rw [if_pos c19] at H
                          have c19b0 : decide (0 < ((rd_L1 l0 x30_1).length : Int)) = true := decide_eq_true c19
                          have c19b1 : decide (0 < (rd_L1 l0 x30_1).length) = true := decide_eq_true (by omega)
                          clear c19
                          by_cases c20 : x6_1.length < 17592186044416
                          · rw [if_pos c20] at H
                            have LMc20 := Aside0.mk c20
                            clear c20
                            obtain ⟨y183, hy183⟩ : ∃ y_ : List Int, y_ = (x6_1 ++ [rd (rd_L1 l0 x30_1) 0]) := ⟨_, rfl⟩
                            replace H : (impl_BackoffRun.l0 k1 l0 (l0.length : Int) y183 (wrap64 (x8_1 + 1)) y177 l0 (l0.length : Int) (wrap64 (x30_1 + 1))) = some (r1, r2, r3) := by first | (rw [hy183]; with_reducible exact H) | (have H2_ := (Option.bind_some _ _).symm.trans H; rw [hy183]; with_reducible exact H2_) | (have H2_ := (Option.bind_some _ _).symm.trans H; with_reducible exact H2_) | with_reducible exact H | (rw [hy183]; exact H) | exact H
                            have Ny183 := Aside0.mk hy183
                            clear hy183
                            have H' := Aside0.mk H
                            clear H
                            have p180 : 0 ≤ (x30_1 : Int) := of_decide_eq_true (by first | (with_reducible assumption) | assumption)
                            have q180 : x30_1 < (l0.length : Int) := of_decide_eq_true (by first | (with_reducible assumption) | assumption)
                            obtain ⟨ad180, A180_0, c180_0, e180, hx180_0, hl180_0, hi180_0⟩ := at_L1 HR0.out x30_1 p180 q180
                            cases e180
                            replace hx180_0 := (HB.out.cell (World.block_lt_of_cell? w _ hx180_0)).trans hx180_0
                            have HR180_0 := Aside0.mk hi180_0
                            have HC180_0 := Aside0.mk hl180_0
                            clear hi180_0 hl180_0
                            replace p180 := eq_true p180
                            replace q180 := eq_true q180
                            go_wp2_with (first | (go_at_call 17; (with_reducible refine (impl_areIn.calls k1 _ _ (rd_L1 l0 x30_1) 0 20 true _ ?side1 ?side2 A17.out).mono ?_); (case side1 => repeat (first | exact (Kd.C_below HR180_0.out HB.out) | (with_reducible refine Kd.C_alloc ?_ _) | (with_reducible refine Kd.C_drewN ?_ _) | (with_reducible refine Kd.C_drew ?_))); (case side2 => exact HC180_0.out); rintro e w' ⟨rfl, ⟨nd, rfl⟩⟩; have p182 : 0 ≤ (0 : Int) := (by omega); have q182 : 0 < ((rd_L1 l0 x30_1).length : Int) := of_decide_eq_true (by first | (with_reducible assumption) | assumption); obtain ⟨ad182, e182, hx182_0⟩ := Kd.at_int HR180_0.out 0 p182 q182; cases e182; have qi182 : (0 < (rd_L1 l0 x30_1).length) = True := eq_true (by omega); (try rw [show ((0 : Int)).toNat = 0 from rfl] at hx182_0); (try rw [Addr.add_zero'] at hx182_0); replace hx182_0 := (HB.out.cell (World.block_lt_of_cell? w _ hx182_0)).trans hx182_0; replace p182 := eq_true p182; replace q182 := eq_true q182) | ((with_reducible refine gate_builtin (b := .append) (xs := #[.tmp 47, .tmp 51]) rfl ?_); (try (refine gate_guard (by rfl) ?_; dsimp only)); at_builtin; refine Kd.R_append (Kd.int .i64) (w0 := w) w.heap.size rfl (.tmp 47) (.tmp 51) 24 2 (.int .i64 0) 8 rfl Try.underlying24 info2 rfl (by decide) (by omega) u6 x6_1 (rd (rd_L1 l0 x30_1) 0) [.int .i64 (rd (rd_L1 l0 x30_1) 0)] (fun _ => True) (fun _ => False) rfl rfl ?aP (fun _ hk => hk.elim) ?aF ?aO ?aB ?aS ?aL ?_; (case aP => exact rfl); (case aB => exact (by repeat (first | (with_reducible first | exact HB.out | apply below_alloc | apply pw_below_drewN | apply below_drew1) | exact HB.out))); (case aF => exact (fun _ _ => trivial)); (case aO => exact (by (with_reducible repeat (first | apply Kd.R_alloc | apply Kd.R_drewN | apply Kd.R_drew)); exact HO_6.out)); (case aS => exact (below_size (by repeat (first | (with_reducible first | exact HB.out | apply below_alloc | apply pw_below_drewN | apply below_drew1) | exact HB.out)))); (case aL => have := LMc20.out; omega); intro v184 w21 ho hb hg hat; rw [← Ny183.out] at ho; have n0_ := Aside0.mk (Kd.R_over' (by (with_reducible repeat (first | apply Kd.R_alloc | apply Kd.R_drewN | apply Kd.R_drew)); exact HO_27.out) (Kd.R_typed (by (with_reducible repeat (first | apply Kd.R_alloc | apply Kd.R_drewN | apply Kd.R_drew)); exact HO_6.out)) (by decide) hg); have n1_ := Aside0.mk (hb); have n2_ := Aside0.mk (ho); clear HO_27; clear HB; clear HO_6; have HO_27 := n0_; have HB := n1_; have HO185 := n2_; clear n0_ n1_ n2_; clear ho hb hg hat))
                            go_roundg k1
                            case measure => have := HK1.out; omega
                            case rel => exact ⟨(y183), (wrap64 (x8_1 + 1)), (wrap64 (x30_1 + 1)), (by first | rfl | (simp; done) | (simp [*]; done)), (by first | rfl | (simp; done) | (simp [*]; done)), H', ⟨by have := HK1.out; omega⟩, ⟨by (with_reducible repeat (first | apply Kd.R_alloc | apply Kd.R_drewN | apply Kd.R_drew)); exact HO185.out⟩, ⟨by (with_reducible repeat (first | apply Kd.R_alloc | apply Kd.R_drewN | apply Kd.R_drew)); exact HO_27.out⟩, ⟨by repeat (first | (with_reducible first | exact HB.out | apply below_alloc | apply pw_below_drewN | apply below_drew1) | exact HB.out)⟩⟩
                          · rw [if_neg c20] at H
                            exact absurd H (by simp)
                        · rw [if_neg c19] at H
                          exact absurd H (by simp)
                      · replace c18 := Bool.eq_false_iff.mpr c18
                        subst c18
                        have H1 : (some (([] : List Int), ([] : List Int), false)) = some (r1, r2, r3) := by rw [if_neg (show ¬ (false = true) by decide)] at H; exact H
                        clear H
                        have H := H1
                        clear H1
                        simp only [Option.some.injEq, Prod.mk.injEq] at H
                        obtain ⟨rfl, rfl, rfl⟩ := H
                        have p180 : 0 ≤ (x30_1 : Int) := of_decide_eq_true (by first | (with_reducible assumption) | assumption)
                        have q180 : x30_1 < (l0.length : Int) := of_decide_eq_true (by first | (with_reducible assumption) | assumption)
                        obtain ⟨ad180, A180_0, c180_0, e180, hx180_0, hl180_0, hi180_0⟩ := at_L1 HR0.out x30_1 p180 q180
                        cases e180
                        replace hx180_0 := (HB.out.cell (World.block_lt_of_cell? w _ hx180_0)).trans hx180_0
                        have HR180_0 := Aside0.mk hi180_0
                        have HC180_0 := Aside0.mk hl180_0
                        clear hi180_0 hl180_0
                        replace p180 := eq_true p180
                        replace q180 := eq_true q180
                        go_wp2_with (first | (go_at_call 17; (with_reducible refine (impl_areIn.calls k1 _ _ (rd_L1 l0 x30_1) 0 20 false _ ?side1 ?side2 A17.out).mono ?_); (case side1 => repeat (first | exact (Kd.C_below HR180_0.out HB.out) | (with_reducible refine Kd.C_alloc ?_ _) | (with_reducible refine Kd.C_drewN ?_ _) | (with_reducible refine Kd.C_drew ?_))); (case side2 => exact HC180_0.out); rintro e w' ⟨rfl, ⟨nd, rfl⟩⟩))
                        go_ret3
                        exact ⟨_, _, by first | rfl | (simp [errW_none, errW_some] <;> rfl) | (simp [*, errW_none, errW_some] <;> rfl), by first | exact Kd.R_nil _ _ _ _ _ | exact Kd.N_nil _ _ _ _ _ | exact Kd.V_nil _ _ _ _ _ | exact Kd.Q_nil _ _ _ _ _ | exact Kd.S_nil _ _ _ _ _, by first | exact Kd.R_nil _ _ _ _ _ | exact Kd.N_nil _ _ _ _ _ | exact Kd.V_nil _ _ _ _ _ | exact Kd.Q_nil _ _ _ _ _ | exact Kd.S_nil _ _ _ _ _, by repeat (first | (with_reducible first | exact HB.out | apply below_alloc | apply pw_below_drewN | apply below_drew1) | exact HB.out)⟩
                · rw [if_neg c14] at H
                  exact absurd H (by simp)
              · rw [if_neg c13] at H
                exact absurd H (by simp)
            · rw [if_neg c12] at H
              have c12b0 : decide (x30_1 < (l0.length : Int)) = false := decide_eq_false c12
              clear c12
              obtain ⟨y186, hy186⟩ : ∃ y_ : List Int, y_ = (([] : List Int)) := ⟨_, rfl⟩
              replace H : ((slices_Repeat_int64_int64.f (([(-1)] : List Int)) (l0.length : Int)).bind fun t192 => (impl_BackoffRun.l1 k1 l0 x6_1 x8_1 y186 y177 t192)) = some (r1, r2, r3) := by first | (rw [hy186]; with_reducible exact H) | (have H2_ := (Option.bind_some _ _).symm.trans H; rw [hy186]; with_reducible exact H2_) | (have H2_ := (Option.bind_some _ _).symm.trans H; with_reducible exact H2_) | with_reducible exact H | (rw [hy186]; exact H) | exact H
              have Ny186 := Aside0.mk hy186
              clear hy186
              obtain ⟨y189, hy189⟩ : ∃ y_ : List Int, y_ = (([(-1)] : List Int)) := ⟨_, rfl⟩
              replace H : ((slices_Repeat_int64_int64.f y189 (l0.length : Int)).bind fun t192 => (impl_BackoffRun.l1 k1 l0 x6_1 x8_1 y186 y177 t192)) = some (r1, r2, r3) := by first | (rw [hy189]; with_reducible exact H) | (have H2_ := (Option.bind_some _ _).symm.trans H; rw [hy189]; with_reducible exact H2_) | (have H2_ := (Option.bind_some _ _).symm.trans H; with_reducible exact H2_) | with_reducible exact H | (rw [hy189]; exact H) | exact H
              have Ny189 := Aside0.mk hy189
              clear hy189
              replace H := Option.bind_eq_some_iff.mp H
              obtain ⟨t192, A220, H⟩ := H
              replace H : (impl_BackoffRun.l1 k1 l0 x6_1 x8_1 y186 y177 t192) = some (r1, r2, r3) := H
              have A22 := Aside0.mk A220
              clear A220
              have H' := Aside0.mk H
              clear H
              go_wp2_with (first | ((with_reducible refine gate_dst (N := 56) rfl ?_); (try (refine gate_guard (by rfl) ?_; dsimp only)); refine Kd.R_lit (Kd.int .i64) _ 2 ?hg (N := 56) ?hd (xs := ([] : List Int)) (inner := []) (ok := fun _ => True) (okp := fun _ => True) ?hr ?hp (fun _ hk => hk) trivial (Below.refl _ _) (Nat.le_refl _) (by simp) ?_; (case hd => rfl); (case hg => rfl); (case hr => first | (go_simp; done) | (go_simp; rfl)); (case hp => exact (Reps.none _ _)); intro v187 w23 ho24 hb hg_ hnew_; clear hg_ hnew_; (first | rw [← Ny186.out] at ho24 | (simp only [Int.reduceToNat] at ho24; rw [← Ny186.out] at ho24)); have n0_ := Aside0.mk (Kd.R_elder' (by (with_reducible repeat (first | apply Kd.R_alloc | apply Kd.R_drewN | apply Kd.R_drew)); exact HO_6.out) (Kd.R_base ho24) hb); have n1_ := Aside0.mk (Kd.R_below (by (with_reducible repeat (first | apply Kd.R_alloc | apply Kd.R_drewN | apply Kd.R_drew)); exact HO_27.out) hb); have n2_ := Aside0.mk (Kd.R_lower (Kd.R_new' ho24 (Kd.R_lt (by (with_reducible repeat (first | apply Kd.R_alloc | apply Kd.R_drewN | apply Kd.R_drew)); exact HO_6.out))) (below_size (by repeat (first | (with_reducible first | exact HB.out | apply below_alloc | apply pw_below_drewN | apply below_drew1) | exact HB.out)))); have n3_ := Aside0.mk (below_step (by repeat (first | (with_reducible first | exact HB.out | apply below_alloc | apply pw_below_drewN | apply below_drew1) | exact HB.out)) hb); clear HO_6; clear HO_27; clear HB; have HO_6 := n0_; have HO_27 := n1_; have HO188 := n2_; have HB := n3_; clear n0_ n1_ n2_ n3_; clear hb ho24) | ((with_reducible refine gate_dst (N := 57) rfl ?_); (try (refine gate_guard (by rfl) ?_; dsimp only)); refine Kd.R_lit (Kd.int .i64) _ 2 ?hg (N := 57) ?hd (xs := ([(-1)] : List Int)) (inner := [.int .i64 (-1)]) (ok := fun _ => True) (okp := fun _ => True) ?hr ?hp (fun _ hk => hk) trivial (Below.refl _ _) (Nat.le_refl _) (by simp) ?_; (case hd => rfl); (case hg => rfl); (case hr => first | (go_simp; done) | (go_simp; rfl)); (case hp => exact (Reps.one (show Kd.M (Kd.int .i64) _ _ _ (-1) [.int .i64 (-1)] from rfl) (Reps.none _ _))); intro v190 w25 ho26 hb hg_ hnew_; clear hg_ hnew_; (first | rw [← Ny189.out] at ho26 | (simp only [Int.reduceToNat] at ho26; rw [← Ny189.out] at ho26)); have n0_ := Aside0.mk (Kd.R_elder' (by (with_reducible repeat (first | apply Kd.R_alloc | apply Kd.R_drewN | apply Kd.R_drew)); exact HO_6.out) (Kd.R_base ho26) hb); have n1_ := Aside0.mk (Kd.R_below (by (with_reducible repeat (first | apply Kd.R_alloc | apply Kd.R_drewN | apply Kd.R_drew)); exact HO_27.out) hb); have n2_ := Aside0.mk (Kd.R_elder' (by (with_reducible repeat (first | apply Kd.R_alloc | apply Kd.R_drewN | apply Kd.R_drew)); exact HO188.out) (Kd.R_base ho26) hb); have n3_ := Aside0.mk (Kd.R_lower (Kd.R_new' (Kd.R_new' ho26 (Kd.R_lt (by (with_reducible repeat (first | apply Kd.R_alloc | apply Kd.R_drewN | apply Kd.R_drew)); exact HO_6.out))) (Kd.R_lt (by (with_reducible repeat (first | apply Kd.R_alloc | apply Kd.R_drewN | apply Kd.R_drew)); exact HO188.out))) (below_size (by repeat (first | (with_reducible first | exact HB.out | apply below_alloc | apply pw_below_drewN | apply below_drew1) | exact HB.out)))); have n4_ := Aside0.mk (below_step (by repeat (first | (with_reducible first | exact HB.out | apply below_alloc | apply pw_below_drewN | apply below_drew1) | exact HB.out)) hb); clear HO_6; clear HO_27; clear HO188; clear HB; have HO_6 := n0_; have HO_27 := n1_; have HO188 := n2_; have HO191 := n3_; have HB := n4_; clear n0_ n1_ n2_ n3_ n4_; clear hb ho26; obtain ⟨Ao27, co27, eo27⟩ := Kd.R_slice HO191.out; subst eo27) | ((with_reducible refine gate_callee (f := 18) rfl ?_); refine goesL_ (some 59) rfl rfl Try.func18 (by kernel_rfl) rfl #[.slice Ao27 y189.length co27, .int .i64 (l0.length : Int)] rfl (by (try simp only [List.map_toArray, List.map_cons, List.map_nil]); first | done | rfl | (simp only [List.length_drop, List.length_take]; rfl)) ?_; (with_reducible refine (slices_Repeat_int64_int64.calls _ _ y189 (l0.length : Int) t192 _ ?side1 ?side2 A22.out).mono ?_); (case side1 => repeat (first | exact (Kd.R_reads' HO191.out).2.2 | (with_reducible refine Kd.C_alloc ?_ _) | (with_reducible refine Kd.C_drewN ?_ _) | (with_reducible refine Kd.C_drew ?_))); (case side2 => exact (Kd.R_reads' HO191.out).2.1); rintro e w28 ⟨v193, rfl, ho0, hb⟩; refine ⟨_, rfl, ?_⟩; have n0_ := Aside0.mk (Kd.R_elder' (by (with_reducible repeat (first | apply Kd.R_alloc | apply Kd.R_drewN | apply Kd.R_drew)); exact HO_6.out) (Kd.R_base ho0) hb); have n1_ := Aside0.mk (Kd.R_below (by (with_reducible repeat (first | apply Kd.R_alloc | apply Kd.R_drewN | apply Kd.R_drew)); exact HO_27.out) hb); have n2_ := Aside0.mk (Kd.R_elder' (by (with_reducible repeat (first | apply Kd.R_alloc | apply Kd.R_drewN | apply Kd.R_drew)); exact HO188.out) (Kd.R_base ho0) hb); have n3_ := Aside0.mk (Kd.R_elder' (by (with_reducible repeat (first | apply Kd.R_alloc | apply Kd.R_drewN | apply Kd.R_drew)); exact HO191.out) (Kd.R_base ho0) hb); have n4_ := Aside0.mk (Kd.R_lower (Kd.R_new' (Kd.R_new' (Kd.R_new' ho0 (Kd.R_lt (by (with_reducible repeat (first | apply Kd.R_alloc | apply Kd.R_drewN | apply Kd.R_drew)); exact HO_6.out))) (Kd.R_lt (by (with_reducible repeat (first | apply Kd.R_alloc | apply Kd.R_drewN | apply Kd.R_drew)); exact HO188.out))) (Kd.R_lt (by (with_reducible repeat (first | apply Kd.R_alloc | apply Kd.R_drewN | apply Kd.R_drew)); exact HO191.out))) (below_size (by repeat (first | (with_reducible first | exact HB.out | apply below_alloc | apply pw_below_drewN | apply below_drew1) | exact HB.out)))); have n5_ := Aside0.mk (below_step (by repeat (first | (with_reducible first | exact HB.out | apply below_alloc | apply pw_below_drewN | apply below_drew1) | exact HB.out)) hb); clear HO_6; clear HO_27; clear HO188; clear HO191; clear HB; have HO_6 := n0_; have HO_27 := n1_; have HO188 := n2_; have HO191 := n3_; have HO194 := n4_; have HB := n5_; clear n0_ n1_ n2_ n3_ n4_ n5_; (try clear hb); (try clear hb2); (try clear hk); (try clear hi); (try clear ho0)))
              go_loopg [8, 11] k1 (fun kq v8 v11 w' => ∃ (x6_2 : List Int) (x8_2 : Int) (x11_2 : List Int) (x27_2 : List Int) (x59_2 : List Int), v8 = .int .i64 x8_2 ∧ Aside0 (impl_BackoffRun.l1 kq l0 x6_2 x8_2 x11_2 x27_2 x59_2 = some (r1, r2, r3)) ∧ Aside0 (kq ≤ k1) ∧ Aside0 (Kd.R (Kd.int .i64) 2 w' w.heap.size (fun k_ => some k_ ≠ (v11 : Value).ownBlock ∧ some k_ ≠ (v193 : Value).ownBlock) u6 x6_2) ∧ Aside0 (Kd.R (Kd.int .i64) 2 w' w.heap.size (fun k_ => some k_ ≠ (u6 : Value).ownBlock ∧ some k_ ≠ (v193 : Value).ownBlock) v11 x11_2) ∧ Aside0 (Kd.R (Kd.int .i64) 3 w' w.heap.size (fun _ => True) v178 x27_2) ∧ Aside0 (Kd.R (Kd.int .i64) 2 w' w.heap.size (fun k_ => some k_ ≠ (u6 : Value).ownBlock ∧ some k_ ≠ (v11 : Value).ownBlock) v193 x59_2) ∧ Aside0 (Below w.heap.size w w'))
              case atStart => exact ⟨(x6_1), (x8_1), (y186), (y177), (t192), (by first | rfl | (simp; done) | (simp [*]; done)), H', ⟨Nat.le_refl _⟩, ⟨by (with_reducible repeat (first | apply Kd.R_alloc | apply Kd.R_drewN | apply Kd.R_drew)); exact Kd.R_mono HO_6.out (fun _ hk => ⟨hk.1.1.2, hk.2⟩)⟩, ⟨by (with_reducible repeat (first | apply Kd.R_alloc | apply Kd.R_drewN | apply Kd.R_drew)); exact Kd.R_mono HO188.out (fun _ hk => ⟨hk.1.1.2, hk.2⟩)⟩, ⟨by (with_reducible repeat (first | apply Kd.R_alloc | apply Kd.R_drewN | apply Kd.R_drew)); exact HO_27.out⟩, ⟨by (with_reducible repeat (first | apply Kd.R_alloc | apply Kd.R_drewN | apply Kd.R_drew)); exact Kd.R_mono HO194.out (fun _ hk => ⟨hk.1.1.2, hk.1.2⟩)⟩, ⟨by repeat (first | (with_reducible first | exact HB.out | apply below_alloc | apply pw_below_drewN | apply below_drew1) | exact HB.out)⟩⟩
              case round => as_aux_lemma =>
                clear H'
                try clear c1
                try clear p1
                try clear q1
                try clear hx1
                try clear qi1
                try clear c2
                try clear p2
                try clear c3
                try clear c4
                try clear c4b0
                try clear c4b1
                try clear c5
                try clear c5b0
                try clear c5b1
                try clear p6
                try clear c7
                try clear c12
                try clear c12b0
                try clear c13
                try clear c13b0
                try clear c14
                try clear c14b0
                try clear c15
                try clear c15b0
                try clear c15b1
                try clear c16
                try clear c16b0
                try clear c16b1
                try clear c18
                try clear p18
                try clear q18
                try clear hx18
                try clear qi18
                try clear c19
                try clear c19b0
                try clear c19b1
                try clear c20
                try clear hx180_0
                try clear hx182_0
                try clear p180
                try clear p182
                try clear p2
                try clear q180
                try clear q182
                obtain ⟨x6_2, x8_2, x11_2, x27_2, x59_2, rfl, HA, HK2, HO_6, HO_11, HO_27, HO_59, HB⟩ := hrel
                cases gk with
                | zero => exact absurd HA.out (by simp [impl_BackoffRun.l1])
                | succ k2 =>
                  have H := HA.out
                  clear HA
                  simp only [impl_BackoffRun.l1] at H
                  have HC29 := Aside0.mk H
                  clear H
                  go_upto_region 14 with (fail)
                  go_cut [66] (fun v66 wc => ∃ (kq : Nat) (x66_28 : Bool), v66 = .bool x66_28 ∧ Aside0 (impl_BackoffRun.j2 kq l0 x6_2 x27_2 x8_2 x11_2 x59_2 x66_28 = some (r1, r2, r3)) ∧ Aside0 (kq ≤ k2) ∧ Aside0 (Kd.R (Kd.int .i64) 2 wc w.heap.size (fun k_ => some k_ ≠ (u11 : Value).ownBlock ∧ some k_ ≠ (v193 : Value).ownBlock) u6 x6_2) ∧ Aside0 (Kd.R (Kd.int .i64) 3 wc w.heap.size (fun _ => True) v178 x27_2) ∧ Aside0 (Kd.R (Kd.int .i64) 2 wc w.heap.size (fun k_ => some k_ ≠ (u6 : Value).ownBlock ∧ some k_ ≠ (v193 : Value).ownBlock) u11 x11_2) ∧ Aside0 (Kd.R (Kd.int .i64) 2 wc w.heap.size (fun k_ => some k_ ≠ (u6 : Value).ownBlock ∧ some k_ ≠ (u11 : Value).ownBlock) v193 x59_2) ∧ Aside0 (Below w.heap.size w wc))
                  case first =>
                    have H := HC29.out
                    clear HC29
                    by_cases c30 : x8_2 > 0
                    · rw [if_pos c30] at H
                      have c30b0 : decide (0 < x8_2) = true := decide_eq_true c30
                      clear c30
                      (first | rw [c30b0] | (simp only [i64_w, i32_w]; rw [c30b0]) | skip)
                      have H' := Aside0.mk H
                      clear H
                      obtain ⟨Ao31, co31, eo31⟩ := Kd.R_slice HO_11.out
                      subst eo31
                      go_wp2
                      go_meet
                      case rel => exact ⟨_, (decide ((x11_2.length : Int) < 300)), (by first | rfl | (simp; done) | (simp [*]; done)), H', ⟨by have := HK1.out; have := HK2.out; first | omega | exact Nat.le_refl _⟩, ⟨by (with_reducible repeat (first | apply Kd.R_alloc | apply Kd.R_drewN | apply Kd.R_drew)); exact HO_6.out⟩, ⟨by (with_reducible repeat (first | apply Kd.R_alloc | apply Kd.R_drewN | apply Kd.R_drew)); exact HO_27.out⟩, ⟨by (with_reducible repeat (first | apply Kd.R_alloc | apply Kd.R_drewN | apply Kd.R_drew)); exact HO_11.out⟩, ⟨by (with_reducible repeat (first | apply Kd.R_alloc | apply Kd.R_drewN | apply Kd.R_drew)); exact HO_59.out⟩, ⟨by repeat (first | (with_reducible first | exact HB.out | apply below_alloc | apply pw_below_drewN | apply below_drew1) | exact HB.out)⟩⟩
                    · rw [if_neg c30] at H
                      have c30b0 : decide (0 < x8_2) = false := decide_eq_false c30
                      clear c30
                      (first | rw [c30b0] | (simp only [i64_w, i32_w]; rw [c30b0]) | skip)
                      have H' := Aside0.mk H
                      clear H
                      go_wp2
                      go_meet
                      case rel => exact ⟨_, (false), (by first | rfl | (simp; done) | (simp [*]; done)), H', ⟨by have := HK1.out; have := HK2.out; first | omega | exact Nat.le_refl _⟩, ⟨by (with_reducible repeat (first | apply Kd.R_alloc | apply Kd.R_drewN | apply Kd.R_drew)); exact HO_6.out⟩, ⟨by (with_reducible repeat (first | apply Kd.R_alloc | apply Kd.R_drewN | apply Kd.R_drew)); exact HO_27.out⟩, ⟨by (with_reducible repeat (first | apply Kd.R_alloc | apply Kd.R_drewN | apply Kd.R_drew)); exact HO_11.out⟩, ⟨by (with_reducible repeat (first | apply Kd.R_alloc | apply Kd.R_drewN | apply Kd.R_drew)); exact HO_59.out⟩, ⟨by repeat (first | (with_reducible first | exact HB.out | apply below_alloc | apply pw_below_drewN | apply below_drew1) | exact HB.out)⟩⟩
                  case rest => as_aux_lemma =>
                    clear HC29
                    try clear c1
                    try clear p1
                    try clear q1
                    try clear hx1
                    try clear qi1
                    try clear c2
                    try clear p2
                    try clear c3
                    try clear c4
                    try clear c4b0
                    try clear c4b1
                    try clear c5
                    try clear c5b0
                    try clear c5b1
                    try clear p6
                    try clear c7
                    try clear c12
                    try clear c12b0
                    try clear c13
                    try clear c13b0
                    try clear c14
                    try clear c14b0
                    try clear c15
                    try clear c15b0
                    try clear c15b1
                    try clear c16
                    try clear c16b0
                    try clear c16b1
                    try clear c18
                    try clear p18
                    try clear q18
                    try clear hx18
                    try clear qi18
                    try clear c19
                    try clear c19b0
                    try clear c19b1
                    try clear c20
                    try clear c30
                    try clear c30b0
                    try clear hx180_0
                    try clear hx182_0
                    try clear p1
                    try clear p18
                    try clear p180
                    try clear p182
                    try clear p2
                    try clear p6
                    try clear q1
                    try clear q18
                    try clear q180
                    try clear q182
                    obtain ⟨kq, x66_28, rfl, HA, HJ28, HO_6, HO_7, HO_11, HO_12, HB⟩ := hcut
                    cases kq with
                    | zero => exact absurd HA.out (by simp [impl_BackoffRun.j2])
                    | succ kj28 =>
                      have H := HA.out
                      clear HA
                      simp only [impl_BackoffRun.j2] at H
                      by_cases c32 : x66_28 = true
                      · subst c32
                        have H1 : (impl_BackoffRun.l2 kj28 l0 x6_2 x27_2 x8_2 x11_2 x59_2 (([] : List Int)) (x6_2.length : Int) 0) = some (r1, r2, r3) := by rw [if_pos rfl] at H; exact H
                        clear H
                        have H := H1
                        clear H1
                        obtain ⟨y195, hy195⟩ : ∃ y_ : List Int, y_ = (([] : List Int)) := ⟨_, rfl⟩
                        replace H : (impl_BackoffRun.l2 kj28 l0 x6_2 x27_2 x8_2 x11_2 x59_2 y195 (x6_2.length : Int) 0) = some (r1, r2, r3) := by first | (rw [hy195]; with_reducible exact H) | (have H2_ := (Option.bind_some _ _).symm.trans H; rw [hy195]; with_reducible exact H2_) | (have H2_ := (Option.bind_some _ _).symm.trans H; with_reducible exact H2_) | with_reducible exact H | (rw [hy195]; exact H) | exact H
                        have Ny195 := Aside0.mk hy195
                        clear hy195
                        have H' := Aside0.mk H
                        clear H
                        go_wp2_with (first | ((with_reducible refine gate_dst (N := 67) rfl ?_); (try (refine gate_guard (by rfl) ?_; dsimp only)); refine Kd.R_lit (Kd.int .i64) _ 3 ?hg (N := 67) ?hd (xs := ([] : List Int)) (inner := []) (ok := fun _ => True) (okp := fun _ => True) ?hr ?hp (fun _ hk => hk) trivial (Below.refl _ _) (Nat.le_refl _) (by simp) ?_; (case hd => rfl); (case hg => rfl); (case hr => first | (go_simp; done) | (go_simp; rfl)); (case hp => exact (Reps.none _ _)); intro v196 w33 ho34 hb hg_ hnew_; clear hg_ hnew_; (first | rw [← Ny195.out] at ho34 | (simp only [Int.reduceToNat] at ho34; rw [← Ny195.out] at ho34)); have n0_ := Aside0.mk (Kd.R_below (by (with_reducible repeat (first | apply Kd.R_alloc | apply Kd.R_drewN | apply Kd.R_drew)); exact HO_6.out) hb); have n1_ := Aside0.mk (Kd.R_elder' (by (with_reducible repeat (first | apply Kd.R_alloc | apply Kd.R_drewN | apply Kd.R_drew)); exact HO_7.out) (Kd.R_base ho34) hb); have n2_ := Aside0.mk (Kd.R_below (by (with_reducible repeat (first | apply Kd.R_alloc | apply Kd.R_drewN | apply Kd.R_drew)); exact HO_11.out) hb); have n3_ := Aside0.mk (Kd.R_below (by (with_reducible repeat (first | apply Kd.R_alloc | apply Kd.R_drewN | apply Kd.R_drew)); exact HO_12.out) hb); have n4_ := Aside0.mk (Kd.R_lower (Kd.R_new' ho34 (Kd.R_lt (by (with_reducible repeat (first | apply Kd.R_alloc | apply Kd.R_drewN | apply Kd.R_drew)); exact HO_7.out))) (below_size (by repeat (first | (with_reducible first | exact HB.out | apply below_alloc | apply pw_below_drewN | apply below_drew1) | exact HB.out)))); have n5_ := Aside0.mk (below_step (by repeat (first | (with_reducible first | exact HB.out | apply below_alloc | apply pw_below_drewN | apply below_drew1) | exact HB.out)) hb); clear HO_6; clear HO_7; clear HO_11; clear HO_12; clear HB; have HO_6 := n0_; have HO_7 := n1_; have HO_11 := n2_; have HO_12 := n3_; have HO197 := n4_; have HB := n5_; clear n0_ n1_ n2_ n3_ n4_ n5_; clear hb ho34; obtain ⟨Ao35, co35, eo35⟩ := Kd.R_slice HO_6.out; subst eo35))
                        go_loopg [13, 70] kj28 (fun kq v13 v70 w' => ∃ (x13_4 : List Int) (x70_4 : Int), v70 = .int .i64 x70_4 ∧ Aside0 (impl_BackoffRun.l2 kq l0 x6_2 x27_2 x8_2 x11_2 x59_2 x13_4 (x6_2.length : Int) x70_4 = some (r1, r2, r3)) ∧ Aside0 (kq ≤ kj28) ∧ Aside0 (Kd.R (Kd.int .i64) 2 w' w.heap.size (fun k_ => some k_ ≠ (u11 : Value).ownBlock ∧ some k_ ≠ (v193 : Value).ownBlock) (.slice Ao35 x6_2.length co35) x6_2) ∧ Aside0 (Kd.R (Kd.int .i64) 3 w' w.heap.size (fun k_ => some k_ ≠ (v13 : Value).ownBlock) v178 x27_2) ∧ Aside0 (Kd.R (Kd.int .i64) 2 w' w.heap.size (fun k_ => some k_ ≠ ((.slice Ao35 x6_2.length co35) : Value).ownBlock ∧ some k_ ≠ (v193 : Value).ownBlock) u11 x11_2) ∧ Aside0 (Kd.R (Kd.int .i64) 2 w' w.heap.size (fun k_ => some k_ ≠ ((.slice Ao35 x6_2.length co35) : Value).ownBlock ∧ some k_ ≠ (u11 : Value).ownBlock) v193 x59_2) ∧ Aside0 (Kd.R (Kd.int .i64) 3 w' w.heap.size (fun k_ => some k_ ≠ (v178 : Value).ownBlock) v13 x13_4) ∧ Aside0 (Below w.heap.size w w'))
                        case atStart => exact ⟨(y195), (0), (by first | rfl | (simp; done) | (simp [*]; done)), H', ⟨Nat.le_refl _⟩, ⟨by (with_reducible repeat (first | apply Kd.R_alloc | apply Kd.R_drewN | apply Kd.R_drew)); exact HO_6.out⟩, ⟨by (with_reducible repeat (first | apply Kd.R_alloc | apply Kd.R_drewN | apply Kd.R_drew)); exact Kd.R_mono HO_7.out (fun _ hk => hk.2)⟩, ⟨by (with_reducible repeat (first | apply Kd.R_alloc | apply Kd.R_drewN | apply Kd.R_drew)); exact HO_11.out⟩, ⟨by (with_reducible repeat (first | apply Kd.R_alloc | apply Kd.R_drewN | apply Kd.R_drew)); exact HO_12.out⟩, ⟨by (with_reducible repeat (first | apply Kd.R_alloc | apply Kd.R_drewN | apply Kd.R_drew)); exact Kd.R_mono HO197.out (fun _ hk => hk.2)⟩, ⟨by repeat (first | (with_reducible first | exact HB.out | apply below_alloc | apply pw_below_drewN | apply below_drew1) | exact HB.out)⟩⟩
                        case round => as_aux_lemma =>
                          clear H'
                          try clear c1
                          try clear p1
                          try clear q1
                          try clear hx1
                          try clear qi1
                          try clear c2
                          try clear p2
                          try clear c3
                          try clear c4
                          try clear c4b0
                          try clear c4b1
                          try clear c5
                          try clear c5b0
                          try clear c5b1
                          try clear p6
                          try clear c7
                          try clear c12
                          try clear c12b0
                          try clear c13
                          try clear c13b0
                          try clear c14
                          try clear c14b0
                          try clear c15
                          try clear c15b0
                          try clear c15b1
                          try clear c16
                          try clear c16b0
                          try clear c16b1
                          try clear c18
                          try clear p18
                          try clear q18
                          try clear hx18
                          try clear qi18
                          try clear c19
                          try clear c19b0
                          try clear c19b1
                          try clear c20
                          try clear c30
                          try clear c30b0
                          try clear c32
                          try clear hx180_0
                          try clear hx182_0
                          try clear p1
                          try clear p18
                          try clear p180
                          try clear p182
                          try clear p2
                          try clear p6
                          try clear q1
                          try clear q18
                          try clear q180
                          try clear q182
                          obtain ⟨x13_4, x70_4, rfl, HA, HK4, HO_6, HO_7, HO_11, HO_12, HO_13, HB⟩ := hrel
                          cases gk with
                          | zero => exact absurd HA.out (by simp [impl_BackoffRun.l2])
                          | succ k4 =>
                            have H := HA.out
                            clear HA
                            simp only [impl_BackoffRun.l2] at H
                            by_cases c36 : x70_4 < (x6_2.length : Int)
                            · rw [if_pos c36] at H
                              have c36b0 : decide (x70_4 < (x6_2.length : Int)) = true := decide_eq_true c36
                              clear c36
                              by_cases c37 : 0 ≤ x70_4
                              · rw [if_pos c37] at H
                                have c37b0 : decide (0 ≤ x70_4) = true := decide_eq_true c37
                                clear c37
                                by_cases c38 : x70_4 < (x6_2.length : Int)
                                · rw [if_pos c38] at H
                                  have c38b0 : decide (x70_4 < (x6_2.length : Int)) = true := decide_eq_true c38
                                  clear c38
                                  by_cases c39 : (rd x6_2 x70_4) = 0
                                  · rw [if_pos c39] at H
                                    have c39b0 : ((rd x6_2 x70_4) == 0) = true := beq_iff_eq.mpr c39
                                    have c39b1 : ((rd x6_2 x70_4) != 0) = false := bne_eq_false_iff_eq.mpr c39
                                    clear c39
                                    by_cases c40 : x13_4.length < 17592186044416
                                    · rw [if_pos c40] at H
                                      have LMc40 := Aside0.mk c40
                                      clear c40
                                      obtain ⟨y199, hy199⟩ : ∃ y_ : List Int, y_ = (x13_4 ++ [x70_4]) := ⟨_, rfl⟩
                                      replace H : (impl_BackoffRun.l2 k4 l0 x6_2 x27_2 x8_2 x11_2 x59_2 y199 (x6_2.length : Int) (wrap64 (x70_4 + 1))) = some (r1, r2, r3) := by first | (rw [hy199]; with_reducible exact H) | (have H2_ := (Option.bind_some _ _).symm.trans H; rw [hy199]; with_reducible exact H2_) | (have H2_ := (Option.bind_some _ _).symm.trans H; with_reducible exact H2_) | with_reducible exact H | (rw [hy199]; exact H) | exact H
                                      have Ny199 := Aside0.mk hy199
                                      clear hy199
                                      have H' := Aside0.mk H
                                      clear H
                                      have p198 : 0 ≤ (x70_4 : Int) := of_decide_eq_true (by first | (with_reducible assumption) | assumption)
                                      have q198 : x70_4 < (x6_2.length : Int) := of_decide_eq_true (by first | (with_reducible assumption) | assumption)
                                      obtain ⟨ad198, e198, hx198_0⟩ := Kd.at_int (Kd.R_reads' HO_6.out).2.2 x70_4 p198 q198
                                      cases e198
                                      replace p198 := eq_true p198
                                      replace q198 := eq_true q198
                                      go_wp2_with (first | ((with_reducible refine gate_builtin (b := .append) (xs := #[.tmp 77, .tmp 79]) rfl ?_); (try (refine gate_guard (by rfl) ?_; dsimp only)); at_builtin; refine Kd.R_append (Kd.int .i64) (w0 := w) w.heap.size rfl (.tmp 77) (.tmp 79) 32 3 (.int .i64 0) 8 rfl Try.underlying32 info3 rfl (by decide) (by omega) u13 x13_4 x70_4 [.int .i64 x70_4] (fun k_ => some k_ ≠ (v178 : Value).ownBlock) (fun _ => False) rfl rfl ?aP (fun _ hk => hk.elim) ?aF ?aO ?aB ?aS ?aL ?_; (case aP => exact rfl); (case aB => exact (by repeat (first | (with_reducible first | exact HB.out | apply below_alloc | apply pw_below_drewN | apply below_drew1) | exact HB.out))); (case aF => exact (fun k_ hk => Kd.fresh' (Kd.R_lt (by (with_reducible repeat (first | apply Kd.R_alloc | apply Kd.R_drewN | apply Kd.R_drew)); exact HO_7.out)) k_ hk)); (case aO => exact (by (with_reducible repeat (first | apply Kd.R_alloc | apply Kd.R_drewN | apply Kd.R_drew)); exact HO_13.out)); (case aS => exact (below_size (by repeat (first | (with_reducible first | exact HB.out | apply below_alloc | apply pw_below_drewN | apply below_drew1) | exact HB.out)))); (case aL => have := LMc40.out; omega); intro v200 w41 ho hb hg hat; rw [← Ny199.out] at ho; have n0_ := Aside0.mk (Kd.R_over' (by (with_reducible repeat (first | apply Kd.R_alloc | apply Kd.R_drewN | apply Kd.R_drew)); exact HO_6.out) (Kd.R_typed (by (with_reducible repeat (first | apply Kd.R_alloc | apply Kd.R_drewN | apply Kd.R_drew)); exact HO_13.out)) (by decide) hg); have n1_ := Aside0.mk (Kd.R_after (ok := (fun _ => True)) (by (with_reducible repeat (first | apply Kd.R_alloc | apply Kd.R_drewN | apply Kd.R_drew)); exact Kd.R_mono HO_7.out (fun _ hk => ⟨trivial, hk⟩)) hg hat); have n2_ := Aside0.mk (Kd.R_over' (by (with_reducible repeat (first | apply Kd.R_alloc | apply Kd.R_drewN | apply Kd.R_drew)); exact HO_11.out) (Kd.R_typed (by (with_reducible repeat (first | apply Kd.R_alloc | apply Kd.R_drewN | apply Kd.R_drew)); exact HO_13.out)) (by decide) hg); have n3_ := Aside0.mk (Kd.R_over' (by (with_reducible repeat (first | apply Kd.R_alloc | apply Kd.R_drewN | apply Kd.R_drew)); exact HO_12.out) (Kd.R_typed (by (with_reducible repeat (first | apply Kd.R_alloc | apply Kd.R_drewN | apply Kd.R_drew)); exact HO_13.out)) (by decide) hg); have n4_ := Aside0.mk (hb); have n5_ := Aside0.mk (ho); clear HO_6; clear HO_7; clear HO_11; clear HO_12; clear HB; clear HO_13; have HO_6 := n0_; have HO_7 := n1_; have HO_11 := n2_; have HO_12 := n3_; have HB := n4_; have HO201 := n5_; clear n0_ n1_ n2_ n3_ n4_ n5_; clear ho hb hg hat))
                                      go_roundg k4
                                      case measure => have := HK1.out; have := HK2.out; have := HJ28.out; have := HK4.out; omega
                                      case rel => exact ⟨(y199), (wrap64 (x70_4 + 1)), (by first | rfl | (simp; done) | (simp [*]; done)), H', ⟨by have := HK1.out; have := HK2.out; have := HJ28.out; have := HK4.out; omega⟩, ⟨by (with_reducible repeat (first | apply Kd.R_alloc | apply Kd.R_drewN | apply Kd.R_drew)); exact HO_6.out⟩, ⟨by (with_reducible repeat (first | apply Kd.R_alloc | apply Kd.R_drewN | apply Kd.R_drew)); exact Kd.R_mono HO_7.out (fun _ hk => hk.2)⟩, ⟨by (with_reducible repeat (first | apply Kd.R_alloc | apply Kd.R_drewN | apply Kd.R_drew)); exact HO_11.out⟩, ⟨by (with_reducible repeat (first | apply Kd.R_alloc | apply Kd.R_drewN | apply Kd.R_drew)); exact HO_12.out⟩, ⟨by (with_reducible repeat (first | apply Kd.R_alloc | apply Kd.R_drewN | apply Kd.R_drew)); exact HO201.out⟩, ⟨by repeat (first | (with_reducible first | exact HB.out | apply below_alloc | apply pw_below_drewN | apply below_drew1) | exact HB.out)⟩⟩
                                    · rw [if_neg c40] at H
                                      exact absurd H (by simp)
                                  · rw [if_neg c39] at H
                                    have c39b0 : ((rd x6_2 x70_4) == 0) = false := beq_eq_false_iff_ne.mpr c39
                                    have c39b1 : ((rd x6_2 x70_4) != 0) = true := bne_iff_ne.mpr c39
                                    have H' := Aside0.mk H
                                    clear H
                                    have p198 : 0 ≤ (x70_4 : Int) := of_decide_eq_true (by first | (with_reducible assumption) | assumption)
                                    have q198 : x70_4 < (x6_2.length : Int) := of_decide_eq_true (by first | (with_reducible assumption) | assumption)
                                    obtain ⟨ad198, e198, hx198_0⟩ := Kd.at_int (Kd.R_reads' HO_6.out).2.2 x70_4 p198 q198
                                    cases e198
                                    replace p198 := eq_true p198
                                    replace q198 := eq_true q198
                                    go_wp2
                                    go_roundg k4
                                    case measure => have := HK1.out; have := HK2.out; have := HJ28.out; have := HK4.out; omega
                                    case rel => exact ⟨(x13_4), (wrap64 (x70_4 + 1)), (by first | rfl | (simp; done) | (simp [*]; done)), H', ⟨by have := HK1.out; have := HK2.out; have := HJ28.out; have := HK4.out; omega⟩, ⟨by (with_reducible repeat (first | apply Kd.R_alloc | apply Kd.R_drewN | apply Kd.R_drew)); exact HO_6.out⟩, ⟨by (with_reducible repeat (first | apply Kd.R_alloc | apply Kd.R_drewN | apply Kd.R_drew)); exact HO_7.out⟩, ⟨by (with_reducible repeat (first | apply Kd.R_alloc | apply Kd.R_drewN | apply Kd.R_drew)); exact HO_11.out⟩, ⟨by (with_reducible repeat (first | apply Kd.R_alloc | apply Kd.R_drewN | apply Kd.R_drew)); exact HO_12.out⟩, ⟨by (with_reducible repeat (first | apply Kd.R_alloc | apply Kd.R_drewN | apply Kd.R_drew)); exact HO_13.out⟩, ⟨by repeat (first | (with_reducible first | exact HB.out | apply below_alloc | apply pw_below_drewN | apply below_drew1) | exact HB.out)⟩⟩
                                · rw [if_neg c38] at H
                                  exact absurd H (by simp)
                              · rw [if_neg c37] at H
                                exact absurd H (by simp)
                            · rw [if_neg c36] at H
                              have c36b0 : decide (x70_4 < (x6_2.length : Int)) = false := decide_eq_false c36
                              clear c36
                              have H' := Aside0.mk H
                              clear H
                              go_wp2
                              go_loopg [84] k4 (fun kq v84 w' => ∃ (x6_5 : List Int) (x84_5 : Int), v84 = .int .i64 x84_5 ∧ Aside0 (impl_BackoffRun.l3 kq l0 x6_5 x27_2 x8_2 x11_2 x59_2 x13_4 (x6_2.length : Int) x84_5 = some (r1, r2, r3)) ∧ Aside0 (kq ≤ k4) ∧ Aside0 (Kd.R (Kd.int .i64) 2 w' w.heap.size (fun k_ => some k_ ≠ (u11 : Value).ownBlock ∧ some k_ ≠ (v193 : Value).ownBlock) (.slice Ao35 x6_2.length co35) x6_5) ∧ Aside0 (Kd.R (Kd.int .i64) 3 w' w.heap.size (fun k_ => some k_ ≠ (u13 : Value).ownBlock) v178 x27_2) ∧ Aside0 (Kd.R (Kd.int .i64) 2 w' w.heap.size (fun k_ => some k_ ≠ ((.slice Ao35 x6_2.length co35) : Value).ownBlock ∧ some k_ ≠ (v193 : Value).ownBlock) u11 x11_2) ∧ Aside0 (Kd.R (Kd.int .i64) 2 w' w.heap.size (fun k_ => some k_ ≠ ((.slice Ao35 x6_2.length co35) : Value).ownBlock ∧ some k_ ≠ (u11 : Value).ownBlock) v193 x59_2) ∧ Aside0 (Kd.R (Kd.int .i64) 3 w' w.heap.size (fun k_ => some k_ ≠ (v178 : Value).ownBlock) u13 x13_4) ∧ Aside0 (Below w.heap.size w w'))
                              case atStart => exact ⟨(x6_2), (0), (by first | rfl | (simp; done) | (simp [*]; done)), H', ⟨Nat.le_refl _⟩, ⟨by (with_reducible repeat (first | apply Kd.R_alloc | apply Kd.R_drewN | apply Kd.R_drew)); exact HO_6.out⟩, ⟨by (with_reducible repeat (first | apply Kd.R_alloc | apply Kd.R_drewN | apply Kd.R_drew)); exact HO_7.out⟩, ⟨by (with_reducible repeat (first | apply Kd.R_alloc | apply Kd.R_drewN | apply Kd.R_drew)); exact HO_11.out⟩, ⟨by (with_reducible repeat (first | apply Kd.R_alloc | apply Kd.R_drewN | apply Kd.R_drew)); exact HO_12.out⟩, ⟨by (with_reducible repeat (first | apply Kd.R_alloc | apply Kd.R_drewN | apply Kd.R_drew)); exact HO_13.out⟩, ⟨by repeat (first | (with_reducible first | exact HB.out | apply below_alloc | apply pw_below_drewN | apply below_drew1) | exact HB.out)⟩⟩
                              case round => as_aux_lemma =>
                                clear H'
                                try clear c1
                                try clear p1
                                try clear q1
                                try clear hx1
                                try clear qi1
                                try clear c2
                                try clear p2
                                try clear c3
                                try clear c4
                                try clear c4b0
                                try clear c4b1
                                try clear c5
                                try clear c5b0
                                try clear c5b1
                                try clear p6
                                try clear c7
                                try clear c12
                                try clear c12b0
                                try clear c13
                                try clear c13b0
                                try clear c14
                                try clear c14b0
                                try clear c15
                                try clear c15b0
                                try clear c15b1
                                try clear c16
                                try clear c16b0
                                try clear c16b1
                                try clear c18
                                try clear p18
                                try clear q18
                                try clear hx18
                                try clear qi18
                                try clear c19
                                try clear c19b0
                                try clear c19b1
                                try clear p19
                                try clear q19
                                try clear hx19
                                try clear c20
                                try clear c30
                                try clear c30b0
                                try clear c32
                                try clear c36
                                try clear c36b0
                                try clear c37
                                try clear c37b0
                                try clear c38
                                try clear c38b0
                                try clear c39
                                try clear c39b0
                                try clear c39b1
                                try clear c40
                                try clear hx180_0
                                try clear hx182_0
                                try clear hx198_0
                                try clear p1
                                try clear p18
                                try clear p180
                                try clear p182
                                try clear p198
                                try clear p2
                                try clear p6
                                try clear q1
                                try clear q18
                                try clear q180
                                try clear q182
                                try clear q198
                                obtain ⟨x6_5, x84_5, rfl, HA, HK5, HO_6, HO_7, HO_11, HO_12, HO_13, HB⟩ := hrel
                                have hl6_5 := (Kd.R_reads' HO_6.out).1
                                rw [hl6_5] at HO_6
                                (try simp only [hl6_5])
                                (try simp only [hl6_5] at HO_7)
                                (try simp only [hl6_5] at HO_11)
                                (try simp only [hl6_5] at HO_12)
                                (try simp only [hl6_5] at HO_13)
                                cases gk with
                                | zero => exact absurd HA.out (by simp [impl_BackoffRun.l3])
                                | succ k5 =>
                                  have H := HA.out
                                  clear HA
                                  simp only [impl_BackoffRun.l3] at H
                                  by_cases c42 : x84_5 < (x6_2.length : Int)
                                  · rw [if_pos c42] at H
                                    have c42b0 : decide (x84_5 < (x6_2.length : Int)) = true := decide_eq_true c42
                                    have c42b0q := c42b0
                                    (try simp only [hl6_5] at c42b0q)
                                    clear c42
                                    by_cases c43 : 0 ≤ x84_5
                                    · rw [if_pos c43] at H
                                      have c43b0 : decide (0 ≤ x84_5) = true := decide_eq_true c43
                                      clear c43
                                      by_cases c44 : x84_5 < (x6_5.length : Int)
                                      · rw [if_pos c44] at H
                                        have c44b0 : decide (x84_5 < (x6_5.length : Int)) = true := decide_eq_true c44
                                        have c44b0q := c44b0
                                        (try simp only [hl6_5] at c44b0q)
                                        clear c44
                                        by_cases c45 : (x13_4.length : Int) = 0
                                        · rw [if_pos c45] at H
                                          have c45b0 : ((x13_4.length : Int) == 0) = true := beq_iff_eq.mpr c45
                                          have c45b1 : ((x13_4.length : Int) != 0) = false := bne_eq_false_iff_eq.mpr c45
                                          clear c45
                                          by_cases c46 : (rd x6_5 x84_5) > 0
                                          · rw [if_pos c46] at H
                                            have c46b0 : decide (0 < (rd x6_5 x84_5)) = true := decide_eq_true c46
                                            clear c46
                                            obtain ⟨y204, hy204⟩ : ∃ y_ : List Int, y_ = (x6_5.set (x84_5 : Int).toNat (wrap64 ((rd x6_5 x84_5) - 1))) := ⟨_, rfl⟩
                                            replace H : (impl_BackoffRun.l3 k5 l0 y204 x27_2 x8_2 x11_2 x59_2 x13_4 (x6_2.length : Int) (wrap64 (x84_5 + 1))) = some (r1, r2, r3) := by first | (rw [hy204]; with_reducible exact H) | (have H2_ := (Option.bind_some _ _).symm.trans H; rw [hy204]; with_reducible exact H2_) | (have H2_ := (Option.bind_some _ _).symm.trans H; with_reducible exact H2_) | with_reducible exact H | (rw [hy204]; exact H) | exact H
                                            have Ny204 := Aside0.mk hy204
                                            clear hy204
                                            have H' := Aside0.mk H
                                            clear H
                                            have p202 : 0 ≤ (x84_5 : Int) := of_decide_eq_true (by first | (with_reducible assumption) | assumption)
                                            have q202 : x84_5 < (x6_5.length : Int) := of_decide_eq_true (by first | (with_reducible assumption) | assumption)
                                            obtain ⟨ad202, e202, hx202_0⟩ := Kd.at_int (Kd.R_reads' HO_6.out).2.2 x84_5 p202 q202
                                            cases e202
                                            replace p202 := eq_true p202
                                            replace q202 := eq_true q202
                                            obtain ⟨Ao48, co48, eo48⟩ := Kd.R_slice HO_13.out
                                            subst eo48
                                            have p203 : 0 ≤ (x84_5 : Int) := of_decide_eq_true (by first | (with_reducible assumption) | assumption)
                                            have q203 : x84_5 < (x6_5.length : Int) := of_decide_eq_true (by first | (with_reducible assumption) | assumption)
                                            obtain ⟨ad203, e203, hx203_0⟩ := Kd.at_int (Kd.R_reads' HO_6.out).2.2 x84_5 p203 q203
                                            obtain rfl : ad202 = ad203 := (by injection e203)
                                            replace p203 := eq_true p203
                                            replace q203 := eq_true q203
                                            have p47 : 0 ≤ (x84_5 : Int) := of_decide_eq_true (by first | (with_reducible assumption) | assumption)
                                            have q47 : (x84_5 : Int) < ((x6_5.length : Int) : Int) := of_decide_eq_true (by first | (with_reducible assumption) | assumption)
                                            obtain ⟨go47, co47, eo47, gb47, gl47, cl47, HG47⟩ := Kd.R_form HO_6.out (by omega)
                                            (first | cases eo47 | (injection eo47 with ea_ en_ ec_; (first | subst ea_ | (injection ea_ with ea_; subst ea_)); subst ec_; clear en_))
                                            have GB47 := Aside0.mk gb47
                                            have GG47 := Aside0.mk HG47
                                            clear gb47 gl47 HG47
                                            (first | simp only [add_plain] at hx202_0 | skip)
                                            (first | simp only [add_plain] at hx203_0 | skip)
                                            obtain ⟨hx47_0, hf47_0⟩ := Kd.R_celln 0 HO_6.out (x84_5 : Int) p47 q47
                                            replace p47 := eq_true p47
                                            replace q47 := eq_true q47
                                            have HP49 := Kd.R_putg HO_6.out (x84_5 : Int) (wrap64 ((rd x6_5 x84_5) - 1))
                                            go_wp2_with (first | ((with_reducible refine gate_store (t := 2) (p := 101) rfl ?_); refine store_event (t := 2) (p := 101) (v := ?vo_w50) (w1 := (wr.setCell ⟨go47, (x84_5 : Int).toNat, none⟩ (.int .i64 (wrap64 ((rd x6_5 x84_5) - 1))))) ?hg ?ho ?hn ?hr ?_; (case ho => rfl); (case hg => rfl); (case hn => rfl); (case hr => first | (go_simp; done) | (go_simp; rfl)); intro w50 hw; have hg : wr.grownBy w50 (some go47) := (by rw [hw]; exact HP49.2); have hp_ : Kd.R (Kd.int .i64) 2 w50 w.heap.size (fun k_ => some k_ ≠ (u11 : Value).ownBlock ∧ some k_ ≠ (v193 : Value).ownBlock) (.slice (some ⟨go47, 0, none⟩) x6_5.length co35) y204 := (by rw [hw, Ny204.out]; exact HP49.1); clear HP49; have n0_ := Aside0.mk (hp_); have n1_ := Aside0.mk (Kd.R_over' (v := (.slice (some ⟨go47, 0, none⟩) x6_5.length co35)) (by (with_reducible repeat (first | apply Kd.R_alloc | apply Kd.R_drewN | apply Kd.R_drew)); exact HO_7.out) (Kd.R_typed HO_6.out) (by decide) hg); have n2_ := Aside0.mk (Kd.R_after (v := (.slice (some ⟨go47, 0, none⟩) x6_5.length co35)) (v1 := (.slice (some ⟨go47, 0, none⟩) x6_5.length co35)) (ok := (fun k_ => some k_ ≠ (v193 : Value).ownBlock)) (by (with_reducible repeat (first | apply Kd.R_alloc | apply Kd.R_drewN | apply Kd.R_drew)); exact Kd.R_mono HO_11.out (fun _ hk => ⟨hk.2, hk.1⟩)) hg (.inl rfl)); have n3_ := Aside0.mk (Kd.R_after (v := (.slice (some ⟨go47, 0, none⟩) x6_5.length co35)) (v1 := (.slice (some ⟨go47, 0, none⟩) x6_5.length co35)) (ok := (fun k_ => some k_ ≠ (u11 : Value).ownBlock)) (by (with_reducible repeat (first | apply Kd.R_alloc | apply Kd.R_drewN | apply Kd.R_drew)); exact Kd.R_mono HO_12.out (fun _ hk => ⟨hk.2, hk.1⟩)) hg (.inl rfl)); have n4_ := Aside0.mk (Kd.R_over' (v := (.slice (some ⟨go47, 0, none⟩) x6_5.length co35)) (by (with_reducible repeat (first | apply Kd.R_alloc | apply Kd.R_drewN | apply Kd.R_drew)); exact HO_13.out) (Kd.R_typed HO_6.out) (by decide) hg); have n5_ := Aside0.mk ((by rw [hw]; exact below_set (HB.out) GB47.out : Below w.heap.size w w50)); clear HO_6; clear HO_7; clear HO_11; clear HO_12; clear HO_13; clear HB; have HO_6 := n0_; have HO_7 := n1_; have HO_11 := n2_; have HO_12 := n3_; have HO_13 := n4_; have HB := n5_; clear n0_ n1_ n2_ n3_ n4_ n5_; clear hg hw hp_))
                                            (try simp only [← hl6_5])
                                            go_roundg k5
                                            case measure => have := HK1.out; have := HK2.out; have := HJ28.out; have := HK4.out; have := HK5.out; omega
                                            case rel => exact ⟨(y204), (wrap64 (x84_5 + 1)), (by first | rfl | (simp; done) | (simp [*]; done)), H', ⟨by have := HK1.out; have := HK2.out; have := HJ28.out; have := HK4.out; have := HK5.out; omega⟩, ⟨by (try simp only [hl6_5]); (with_reducible repeat (first | apply Kd.R_alloc | apply Kd.R_drewN | apply Kd.R_drew)); exact HO_6.out⟩, ⟨by (try simp only [hl6_5]); (with_reducible repeat (first | apply Kd.R_alloc | apply Kd.R_drewN | apply Kd.R_drew)); exact HO_7.out⟩, ⟨by (try simp only [hl6_5]); (with_reducible repeat (first | apply Kd.R_alloc | apply Kd.R_drewN | apply Kd.R_drew)); exact Kd.R_mono HO_11.out (fun _ hk => ⟨hk.2, hk.1⟩)⟩, ⟨by (try simp only [hl6_5]); (with_reducible repeat (first | apply Kd.R_alloc | apply Kd.R_drewN | apply Kd.R_drew)); exact Kd.R_mono HO_12.out (fun _ hk => ⟨hk.2, hk.1⟩)⟩, ⟨by (try simp only [hl6_5]); (with_reducible repeat (first | apply Kd.R_alloc | apply Kd.R_drewN | apply Kd.R_drew)); exact HO_13.out⟩, ⟨by repeat (first | (with_reducible first | exact HB.out | apply below_alloc | apply pw_below_drewN | apply below_drew1) | exact HB.out)⟩⟩
                                          · rw [if_neg c46] at H
                                            have c46b0 : decide (0 < (rd x6_5 x84_5)) = false := decide_eq_false c46
                                            clear c46
                                            have H' := Aside0.mk H
                                            clear H
                                            have p202 : 0 ≤ (x84_5 : Int) := of_decide_eq_true (by first | (with_reducible assumption) | assumption)
                                            have q202 : x84_5 < (x6_5.length : Int) := of_decide_eq_true (by first | (with_reducible assumption) | assumption)
                                            obtain ⟨ad202, e202, hx202_0⟩ := Kd.at_int (Kd.R_reads' HO_6.out).2.2 x84_5 p202 q202
                                            cases e202
                                            replace p202 := eq_true p202
                                            replace q202 := eq_true q202
                                            obtain ⟨Ao51, co51, eo51⟩ := Kd.R_slice HO_13.out
                                            subst eo51
                                            go_wp2
                                            (try simp only [← hl6_5])
                                            go_roundg k5
                                            case measure => have := HK1.out; have := HK2.out; have := HJ28.out; have := HK4.out; have := HK5.out; omega
                                            case rel => exact ⟨(x6_5), (wrap64 (x84_5 + 1)), (by first | rfl | (simp; done) | (simp [*]; done)), H', ⟨by have := HK1.out; have := HK2.out; have := HJ28.out; have := HK4.out; have := HK5.out; omega⟩, ⟨by (try simp only [hl6_5]); (with_reducible repeat (first | apply Kd.R_alloc | apply Kd.R_drewN | apply Kd.R_drew)); exact HO_6.out⟩, ⟨by (try simp only [hl6_5]); (with_reducible repeat (first | apply Kd.R_alloc | apply Kd.R_drewN | apply Kd.R_drew)); exact HO_7.out⟩, ⟨by (try simp only [hl6_5]); (with_reducible repeat (first | apply Kd.R_alloc | apply Kd.R_drewN | apply Kd.R_drew)); exact HO_11.out⟩, ⟨by (try simp only [hl6_5]); (with_reducible repeat (first | apply Kd.R_alloc | apply Kd.R_drewN | apply Kd.R_drew)); exact HO_12.out⟩, ⟨by (try simp only [hl6_5]); (with_reducible repeat (first | apply Kd.R_alloc | apply Kd.R_drewN | apply Kd.R_drew)); exact HO_13.out⟩, ⟨by repeat (first | (with_reducible first | exact HB.out | apply below_alloc | apply pw_below_drewN | apply below_drew1) | exact HB.out)⟩⟩
                                        · rw [if_neg c45] at H
                                          have c45b0 : ((x13_4.length : Int) == 0) = false := beq_eq_false_iff_ne.mpr c45
                                          have c45b1 : ((x13_4.length : Int) != 0) = true := bne_iff_ne.mpr c45
                                          have c45b2 : ¬ (x13_4 = []) := fun h_ => c45 (by rw [h_]; rfl)
                                          have H' := Aside0.mk H
                                          clear H
                                          have p202 : 0 ≤ (x84_5 : Int) := of_decide_eq_true (by first | (with_reducible assumption) | assumption)
                                          have q202 : x84_5 < (x6_5.length : Int) := of_decide_eq_true (by first | (with_reducible assumption) | assumption)
                                          obtain ⟨ad202, e202, hx202_0⟩ := Kd.at_int (Kd.R_reads' HO_6.out).2.2 x84_5 p202 q202
                                          cases e202
                                          replace p202 := eq_true p202
                                          replace q202 := eq_true q202
                                          obtain ⟨Ao52, co52, eo52⟩ := Kd.R_slice HO_13.out
                                          subst eo52
                                          go_wp2
                                          (try simp only [← hl6_5])
                                          go_roundg k5
                                          case measure => have := HK1.out; have := HK2.out; have := HJ28.out; have := HK4.out; have := HK5.out; omega
                                          case rel => exact ⟨(x6_5), (wrap64 (x84_5 + 1)), (by first | rfl | (simp; done) | (simp [*]; done)), H', ⟨by have := HK1.out; have := HK2.out; have := HJ28.out; have := HK4.out; have := HK5.out; omega⟩, ⟨by (try simp only [hl6_5]); (with_reducible repeat (first | apply Kd.R_alloc | apply Kd.R_drewN | apply Kd.R_drew)); exact HO_6.out⟩, ⟨by (try simp only [hl6_5]); (with_reducible repeat (first | apply Kd.R_alloc | apply Kd.R_drewN | apply Kd.R_drew)); exact HO_7.out⟩, ⟨by (try simp only [hl6_5]); (with_reducible repeat (first | apply Kd.R_alloc | apply Kd.R_drewN | apply Kd.R_drew)); exact HO_11.out⟩, ⟨by (try simp only [hl6_5]); (with_reducible repeat (first | apply Kd.R_alloc | apply Kd.R_drewN | apply Kd.R_drew)); exact HO_12.out⟩, ⟨by (try simp only [hl6_5]); (with_reducible repeat (first | apply Kd.R_alloc | apply Kd.R_drewN | apply Kd.R_drew)); exact HO_13.out⟩, ⟨by repeat (first | (with_reducible first | exact HB.out | apply below_alloc | apply pw_below_drewN | apply below_drew1) | exact HB.out)⟩⟩
                                      · rw [if_neg c44] at H
                                        exact absurd H (by simp)
                                    · rw [if_neg c43] at H
                                      exact absurd H (by simp)
                                  · rw [if_neg c42] at H
                                    have c42b0 : decide (x84_5 < (x6_2.length : Int)) = false := decide_eq_false c42
                                    have c42b0q := c42b0
                                    (try simp only [hl6_5] at c42b0q)
                                    clear c42
                                    have H' := Aside0.mk H
                                    clear H
                                    obtain ⟨Ao53, co53, eo53⟩ := Kd.R_slice HO_13.out
                                    subst eo53
                                    go_wp2
                                    go_loopg [8, 105] k5 (fun kq v8 v105 w' => ∃ (x6_6 : List Int) (x7_6 : List Int) (x8_6 : Int) (x12_6 : List Int) (x105_6 : Int), v8 = .int .i64 x8_6 ∧ v105 = .int .i64 x105_6 ∧ Aside0 (impl_BackoffRun.l4 kq l0 x6_6 x7_6 x8_6 x11_2 x12_6 x13_4 (x13_4.length : Int) x105_6 = some (r1, r2, r3)) ∧ Aside0 (kq ≤ k5) ∧ Aside0 (Kd.R (Kd.int .i64) 2 w' w.heap.size (fun k_ => some k_ ≠ (u11 : Value).ownBlock ∧ some k_ ≠ (v193 : Value).ownBlock) (.slice Ao35 x6_5.length co35) x6_6) ∧ Aside0 (Kd.R (Kd.int .i64) 3 w' w.heap.size (fun k_ => some k_ ≠ ((.slice Ao53 x13_4.length co53) : Value).ownBlock) v178 x7_6) ∧ Aside0 (Kd.R (Kd.int .i64) 2 w' w.heap.size (fun k_ => some k_ ≠ ((.slice Ao35 x6_5.length co35) : Value).ownBlock ∧ some k_ ≠ (v193 : Value).ownBlock) u11 x11_2) ∧ Aside0 (Kd.R (Kd.int .i64) 2 w' w.heap.size (fun k_ => some k_ ≠ ((.slice Ao35 x6_5.length co35) : Value).ownBlock ∧ some k_ ≠ (u11 : Value).ownBlock) v193 x12_6) ∧ Aside0 (Kd.R (Kd.int .i64) 3 w' w.heap.size (fun k_ => some k_ ≠ (v178 : Value).ownBlock) (.slice Ao53 x13_4.length co53) x13_4) ∧ Aside0 (Below w.heap.size w w'))
                                    case atStart => exact ⟨(x6_5), (x27_2), (x8_2), (x59_2), (0), (by first | rfl | (simp; done) | (simp [*]; done)), (by first | rfl | (simp; done) | (simp [*]; done)), H', ⟨Nat.le_refl _⟩, ⟨by (try simp only [hl6_5]); (with_reducible repeat (first | apply Kd.R_alloc | apply Kd.R_drewN | apply Kd.R_drew)); exact HO_6.out⟩, ⟨by (try simp only [hl6_5]); (with_reducible repeat (first | apply Kd.R_alloc | apply Kd.R_drewN | apply Kd.R_drew)); exact HO_7.out⟩, ⟨by (try simp only [hl6_5]); (with_reducible repeat (first | apply Kd.R_alloc | apply Kd.R_drewN | apply Kd.R_drew)); exact HO_11.out⟩, ⟨by (try simp only [hl6_5]); (with_reducible repeat (first | apply Kd.R_alloc | apply Kd.R_drewN | apply Kd.R_drew)); exact HO_12.out⟩, ⟨by (try simp only [hl6_5]); (with_reducible repeat (first | apply Kd.R_alloc | apply Kd.R_drewN | apply Kd.R_drew)); exact HO_13.out⟩, ⟨by repeat (first | (with_reducible first | exact HB.out | apply below_alloc | apply pw_below_drewN | apply below_drew1) | exact HB.out)⟩⟩
                                    case round => as_aux_lemma =>
                                      clear H'
                                      try clear c1
                                      try clear p1
                                      try clear q1
                                      try clear hx1
                                      try clear qi1
                                      try clear c2
                                      try clear p2
                                      try clear q2
                                      try clear hx2
                                      try clear c3
                                      try clear c4
                                      try clear c4b0
                                      try clear c4b1
                                      try clear p4
                                      try clear q4
                                      try clear hx4
                                      try clear hf4
                                      try clear c5
                                      try clear c5b0
                                      try clear c5b1
                                      try clear p6
                                      try clear c7
                                      try clear c12
                                      try clear c12b0
                                      try clear c13
                                      try clear c13b0
                                      try clear c14
                                      try clear c14b0
                                      try clear c15
                                      try clear c15b0
                                      try clear c15b1
                                      try clear c16
                                      try clear c16b0
                                      try clear c16b1
                                      try clear c18
                                      try clear p18
                                      try clear q18
                                      try clear hx18
                                      try clear qi18
                                      try clear c19
                                      try clear c19b0
                                      try clear c19b1
                                      try clear p19
                                      try clear q19
                                      try clear hx19
                                      try clear c20
                                      try clear p20
                                      try clear q20
                                      try clear hx20
                                      try clear c30
                                      try clear c30b0
                                      try clear c32
                                      try clear c36
                                      try clear c36b0
                                      try clear c37
                                      try clear c37b0
                                      try clear c38
                                      try clear c38b0
                                      try clear c39
                                      try clear c39b0
                                      try clear c39b1
                                      try clear c40
                                      try clear c42
                                      try clear c42b0
                                      try clear c43
                                      try clear c43b0
                                      try clear c44
                                      try clear c44b0
                                      try clear c45
                                      try clear c45b0
                                      try clear c45b1
                                      try clear c45b2
                                      try clear c46
                                      try clear c46b0
                                      try clear p47
                                      try clear q47
                                      try clear hx47
                                      try clear hf47
                                      try clear hx180_0
                                      try clear hx182_0
                                      try clear hx198_0
                                      try clear hx202_0
                                      try clear hx203_0
                                      try clear hx47_0
                                      try clear p1
                                      try clear p18
                                      try clear p180
                                      try clear p182
                                      try clear p19
                                      try clear p198
                                      try clear p2
                                      try clear p202
                                      try clear p203
                                      try clear p47
                                      try clear p6
                                      try clear q1
                                      try clear q18
                                      try clear q180
                                      try clear q182
                                      try clear q19
                                      try clear q198
                                      try clear q202
                                      try clear q203
                                      try clear q47
                                      obtain ⟨x6_6, x7_6, x8_6, x12_6, x105_6, rfl, rfl, HA, HK6, HO_6, HO_7, HO_11, HO_12, HO_13, HB⟩ := hrel
                                      have hl6_6 := (Kd.R_reads' HO_6.out).1
                                      rw [hl6_6] at HO_6
                                      (try simp only [hl6_6])
                                      (try simp only [hl6_6] at HO_7)
                                      (try simp only [hl6_6] at HO_11)
                                      (try simp only [hl6_6] at HO_12)
                                      (try simp only [hl6_6] at HO_13)
                                      cases gk with
                                      | zero => exact absurd HA.out (by simp [impl_BackoffRun.l4])
                                      | succ k6 =>
                                        have H := HA.out
                                        clear HA
                                        simp only [impl_BackoffRun.l4] at H
                                        by_cases c54 : x105_6 < (x13_4.length : Int)
                                        · rw [if_pos c54] at H
                                          have c54b0 : decide (x105_6 < (x13_4.length : Int)) = true := decide_eq_true c54
                                          clear c54
                                          by_cases c55 : 0 ≤ x105_6
                                          · rw [if_pos c55] at H
                                            have c55b0 : decide (0 ≤ x105_6) = true := decide_eq_true c55
                                            clear c55
                                            by_cases c56 : x105_6 < (x13_4.length : Int)
                                            · rw [if_pos c56] at H
                                              have c56b0 : decide (x105_6 < (x13_4.length : Int)) = true := decide_eq_true c56
                                              clear c56
                                              by_cases c57 : 0 ≤ (rd x13_4 x105_6)
                                              · rw [if_pos c57] at H
                                                have c57b0 : decide (0 ≤ (rd x13_4 x105_6)) = true := decide_eq_true c57
                                                clear c57
                                                by_cases c58 : (rd x13_4 x105_6) < (x7_6.length : Int)
                                                · rw [if_pos c58] at H
                                                  have c58b0 : decide ((rd x13_4 x105_6) < (x7_6.length : Int)) = true := decide_eq_true c58
                                                  clear c58
                                                  obtain ⟨y210, hy210⟩ : ∃ y_ : List Int, y_ = (x7_6.set ((rd x13_4 x105_6) : Int).toNat (wrap64 ((rd x7_6 (rd x13_4 x105_6)) + 1))) := ⟨_, rfl⟩
                                                  replace H : (if (x13_4.length : Int) = 1 then (if (rd x13_4 x105_6) < (x12_6.length : Int) then (if (rd x13_4 x105_6) < (x6_6.length : Int) then (impl_BackoffRun.l4 k6 l0 (x6_6.set ((rd x13_4 x105_6) : Int).toNat (-1)) y210 (wrap64 (x8_6 - 1)) x11_2 (x12_6.set ((rd x13_4 x105_6) : Int).toNat (x11_2.length : Int)) x13_4 (x13_4.length : Int) (wrap64 (x105_6 + 1))) else (none)) else (none)) else (if (rd x13_4 x105_6) < (l0.length : Int) then (if (rd y210 (rd x13_4 x105_6)) = ((rd_L1 l0 (rd x13_4 x105_6)).length : Int) then (if (rd x13_4 x105_6) < (x6_6.length : Int) then (impl_BackoffRun.l4 k6 l0 (x6_6.set ((rd x13_4 x105_6) : Int).toNat (-1)) y210 (wrap64 (x8_6 - 1)) x11_2 x12_6 x13_4 (x13_4.length : Int) (wrap64 (x105_6 + 1))) else (none)) else (if 0 ≤ (rd y210 (rd x13_4 x105_6)) then (if (rd y210 (rd x13_4 x105_6)) < ((rd_L1 l0 (rd x13_4 x105_6)).length : Int) then (if (rd x13_4 x105_6) < (x6_6.length : Int) then (impl_BackoffRun.l4 k6 l0 (x6_6.set ((rd x13_4 x105_6) : Int).toNat (rd (rd_L1 l0 (rd x13_4 x105_6)) (rd y210 (rd x13_4 x105_6)))) y210 x8_6 x11_2 x12_6 x13_4 (x13_4.length : Int) (wrap64 (x105_6 + 1))) else (none)) else (none)) else (none))) else (none))) = some (r1, r2, r3) := by first | (rw [hy210]; with_reducible exact H) | (have H2_ := (Option.bind_some _ _).symm.trans H; rw [hy210]; with_reducible exact H2_) | (have H2_ := (Option.bind_some _ _).symm.trans H; with_reducible exact H2_) | with_reducible exact H | (rw [hy210]; exact H) | exact H
                                                  have Ny210 := Aside0.mk hy210
                                                  clear hy210
                                                  by_cases c60 : (x13_4.length : Int) = 1
                                                  · rw [if_pos c60] at H
                                                    have c60b0 : ((x13_4.length : Int) == 1) = true := beq_iff_eq.mpr c60
                                                    have c60b1 : ((x13_4.length : Int) != 1) = false := bne_eq_false_iff_eq.mpr c60
                                                    clear c60
                                                    by_cases c61 : (rd x13_4 x105_6) < (x12_6.length : Int)
                                                    · rw [if_pos c61] at H
                                                      have c61b0 : decide ((rd x13_4 x105_6) < (x12_6.length : Int)) = true := decide_eq_true c61
                                                      clear c61
                                                      obtain ⟨y211, hy211⟩ : ∃ y_ : List Int, y_ = (x12_6.set ((rd x13_4 x105_6) : Int).toNat (x11_2.length : Int)) := ⟨_, rfl⟩
                                                      replace H : (if (rd x13_4 x105_6) < (x6_6.length : Int) then (impl_BackoffRun.l4 k6 l0 (x6_6.set ((rd x13_4 x105_6) : Int).toNat (-1)) y210 (wrap64 (x8_6 - 1)) x11_2 y211 x13_4 (x13_4.length : Int) (wrap64 (x105_6 + 1))) else (none)) = some (r1, r2, r3) := by first | (rw [hy211]; with_reducible exact H) | (have H2_ := (Option.bind_some _ _).symm.trans H; rw [hy211]; with_reducible exact H2_) | (have H2_ := (Option.bind_some _ _).symm.trans H; with_reducible exact H2_) | with_reducible exact H | (rw [hy211]; exact H) | exact H
                                                      have Ny211 := Aside0.mk hy211
                                                      clear hy211
                                                      by_cases c63 : (rd x13_4 x105_6) < (x6_6.length : Int)
                                                      · rw [if_pos c63] at H
                                                        have c63b0 : decide ((rd x13_4 x105_6) < (x6_6.length : Int)) = true := decide_eq_true c63
                                                        have c63b0q := c63b0
                                                        (try simp only [hl6_5, hl6_6] at c63b0q)
                                                        clear c63
                                                        obtain ⟨y212, hy212⟩ : ∃ y_ : List Int, y_ = (x6_6.set ((rd x13_4 x105_6) : Int).toNat (-1)) := ⟨_, rfl⟩
                                                        replace H : (impl_BackoffRun.l4 k6 l0 y212 y210 (wrap64 (x8_6 - 1)) x11_2 y211 x13_4 (x13_4.length : Int) (wrap64 (x105_6 + 1))) = some (r1, r2, r3) := by first | (rw [hy212]; with_reducible exact H) | (have H2_ := (Option.bind_some _ _).symm.trans H; rw [hy212]; with_reducible exact H2_) | (have H2_ := (Option.bind_some _ _).symm.trans H; with_reducible exact H2_) | with_reducible exact H | (rw [hy212]; exact H) | exact H
                                                        have Ny212 := Aside0.mk hy212
                                                        clear hy212
                                                        have H' := Aside0.mk H
                                                        clear H
                                                        have p208 : 0 ≤ (x105_6 : Int) := of_decide_eq_true (by first | (with_reducible assumption) | assumption)
                                                        have q208 : x105_6 < (x13_4.length : Int) := of_decide_eq_true (by first | (with_reducible assumption) | assumption)
                                                        obtain ⟨ad208, e208, hx208_0⟩ := Kd.at_int (Kd.R_reads' HO_13.out).2.2 x105_6 p208 q208
                                                        cases e208
                                                        replace p208 := eq_true p208
                                                        replace q208 := eq_true q208
                                                        obtain ⟨Ao65, co65, eo65⟩ := Kd.R_slice HO_7.out
                                                        subst eo65
                                                        have p209 : 0 ≤ ((rd x13_4 x105_6) : Int) := of_decide_eq_true (by first | (with_reducible assumption) | assumption)
                                                        have q209 : (rd x13_4 x105_6) < (x7_6.length : Int) := of_decide_eq_true (by first | (with_reducible assumption) | assumption)
                                                        obtain ⟨ad209, e209, hx209_0⟩ := Kd.at_int (Kd.R_reads' HO_7.out).2.2 (rd x13_4 x105_6) p209 q209
                                                        cases e209
                                                        replace p209 := eq_true p209
                                                        replace q209 := eq_true q209
                                                        have p59 : 0 ≤ ((rd x13_4 x105_6) : Int) := of_decide_eq_true (by first | (with_reducible assumption) | assumption)
                                                        have q59 : ((rd x13_4 x105_6) : Int) < ((x7_6.length : Int) : Int) := of_decide_eq_true (by first | (with_reducible assumption) | assumption)
                                                        obtain ⟨go59, co59, eo59, gb59, gl59, cl59, HG59⟩ := Kd.R_form HO_7.out (by omega)
                                                        (first | cases eo59 | (injection eo59 with ea_ en_ ec_; (first | subst ea_ | (injection ea_ with ea_; subst ea_)); subst ec_; clear en_))
                                                        have GB59 := Aside0.mk gb59
                                                        have GG59 := Aside0.mk HG59
                                                        clear gb59 gl59 HG59
                                                        (first | simp only [add_plain] at hx209_0 | skip)
                                                        obtain ⟨hx59_0, hf59_0⟩ := Kd.R_celln 0 HO_7.out ((rd x13_4 x105_6) : Int) p59 q59
                                                        replace p59 := eq_true p59
                                                        replace q59 := eq_true q59
                                                        have HP66 := Kd.R_putg HO_7.out ((rd x13_4 x105_6) : Int) (wrap64 ((rd x7_6 (rd x13_4 x105_6)) + 1))
                                                        go_wp2_with (first | ((with_reducible refine gate_store (t := 3) (p := 114) rfl ?_); refine store_event (t := 3) (p := 114) (v := ?vo_w67) (w1 := (wr.setCell ⟨go59, ((rd x13_4 x105_6) : Int).toNat, none⟩ (.int .i64 (wrap64 ((rd x7_6 (rd x13_4 x105_6)) + 1))))) ?hg ?ho ?hn ?hr ?_; (case ho => rfl); (case hg => rfl); (case hn => rfl); (case hr => first | (go_simp; done) | (go_simp; rfl)); intro w67 hw; have hg : wr.grownBy w67 (some go59) := (by rw [hw]; exact HP66.2); have hp_ : Kd.R (Kd.int .i64) 3 w67 w.heap.size (fun k_ => some k_ ≠ (.slice (some ad208) x13_4.length co53 : Value).ownBlock) (.slice (some ⟨go59, 0, none⟩) x7_6.length co65) y210 := (by rw [hw, Ny210.out]; exact HP66.1); clear HP66; have n0_ := Aside0.mk (Kd.R_over' (v := (.slice (some ⟨go59, 0, none⟩) x7_6.length co65)) (by (with_reducible repeat (first | apply Kd.R_alloc | apply Kd.R_drewN | apply Kd.R_drew)); exact HO_6.out) (Kd.R_typed HO_7.out) (by decide) hg); have n1_ := Aside0.mk (hp_); have n2_ := Aside0.mk (Kd.R_over' (v := (.slice (some ⟨go59, 0, none⟩) x7_6.length co65)) (by (with_reducible repeat (first | apply Kd.R_alloc | apply Kd.R_drewN | apply Kd.R_drew)); exact HO_11.out) (Kd.R_typed HO_7.out) (by decide) hg); have n3_ := Aside0.mk (Kd.R_over' (v := (.slice (some ⟨go59, 0, none⟩) x7_6.length co65)) (by (with_reducible repeat (first | apply Kd.R_alloc | apply Kd.R_drewN | apply Kd.R_drew)); exact HO_12.out) (Kd.R_typed HO_7.out) (by decide) hg); have n4_ := Aside0.mk (Kd.R_after (v := (.slice (some ⟨go59, 0, none⟩) x7_6.length co65)) (v1 := (.slice (some ⟨go59, 0, none⟩) x7_6.length co65)) (ok := (fun _ => True)) (by (with_reducible repeat (first | apply Kd.R_alloc | apply Kd.R_drewN | apply Kd.R_drew)); exact Kd.R_mono HO_13.out (fun _ hk => ⟨trivial, hk⟩)) hg (.inl rfl)); have n5_ := Aside0.mk ((by rw [hw]; exact below_set (HB.out) GB59.out : Below w.heap.size w w67)); clear HO_6; clear HO_7; clear HO_11; clear HO_12; clear HO_13; clear HB; have HO_6 := n0_; have HO_7 := n1_; have HO_11 := n2_; have HO_12 := n3_; have HO_13 := n4_; have HB := n5_; clear n0_ n1_ n2_ n3_ n4_ n5_; clear hg hw hp_; obtain ⟨Ao68, co68, eo68⟩ := Kd.R_slice HO_11.out; subst eo68; have p62 : 0 ≤ ((rd x13_4 x105_6) : Int) := of_decide_eq_true (by first | (with_reducible assumption) | assumption); have q62 : ((rd x13_4 x105_6) : Int) < ((x12_6.length : Int) : Int) := of_decide_eq_true (by first | (with_reducible assumption) | assumption); obtain ⟨go62, co62, eo62, gb62, gl62, cl62, HG62⟩ := Kd.R_form HO_12.out (by omega); (first | cases eo62 | (injection eo62 with ea_ en_ ec_; (first | subst ea_ | (injection ea_ with ea_; subst ea_)); subst ec_; clear en_)); have GB62 := Aside0.mk gb62; have GG62 := Aside0.mk HG62; clear gb62 gl62 HG62; obtain ⟨hx62_0, hf62_0⟩ := Kd.R_celln 0 HO_12.out ((rd x13_4 x105_6) : Int) p62 q62; replace p62 := eq_true p62; replace q62 := eq_true q62; obtain ⟨hy69_, hz69_⟩ := Kd.R_celln 0 HO_12.out ((rd x13_4 x105_6) : Int) (of_decide_eq_true (by first | (with_reducible assumption) | assumption)) (of_decide_eq_true (by first | (with_reducible assumption) | assumption)); have HP69 := Kd.R_putg HO_12.out ((rd x13_4 x105_6) : Int) (x11_2.length : Int)) | ((with_reducible refine gate_store (t := 2) (p := 136) rfl ?_); refine store_event (t := 2) (p := 136) (v := ?vo_w70) (w1 := (w67.setCell ⟨go62, ((rd x13_4 x105_6) : Int).toNat, none⟩ (.int .i64 (x11_2.length : Int)))) ?hg ?ho ?hn ?hr ?_; (case ho => rfl); (case hg => rfl); (case hn => rfl); (case hr => first | (go_simp; done) | (go_simp; rfl)); intro w70 hw; have hg : w67.grownBy w70 (some go62) := (by rw [hw]; exact HP69.2); have hp_ : Kd.R (Kd.int .i64) 2 w70 w.heap.size (fun k_ => some k_ ≠ (.slice Ao35 x6_6.length co35 : Value).ownBlock ∧ some k_ ≠ (.slice Ao68 x11_2.length co68 : Value).ownBlock) (.slice (some ⟨go62, 0, none⟩) x12_6.length co62) y211 := (by rw [hw, Ny211.out]; exact HP69.1); clear HP69; have n0_ := Aside0.mk (Kd.R_after (v := (.slice (some ⟨go62, 0, none⟩) x12_6.length co62)) (v1 := (.slice (some ⟨go62, 0, none⟩) x12_6.length co62)) (ok := (fun k_ => some k_ ≠ (.slice Ao68 x11_2.length co68 : Value).ownBlock)) (by (with_reducible repeat (first | apply Kd.R_alloc | apply Kd.R_drewN | apply Kd.R_drew)); exact HO_6.out) hg (.inl rfl)); have n1_ := Aside0.mk (Kd.R_over' (v := (.slice (some ⟨go62, 0, none⟩) x12_6.length co62)) (by (with_reducible repeat (first | apply Kd.R_alloc | apply Kd.R_drewN | apply Kd.R_drew)); exact HO_7.out) (Kd.R_typed HO_12.out) (by decide) hg); have n2_ := Aside0.mk (Kd.R_after (v := (.slice (some ⟨go62, 0, none⟩) x12_6.length co62)) (v1 := (.slice (some ⟨go62, 0, none⟩) x12_6.length co62)) (ok := (fun k_ => some k_ ≠ (.slice Ao35 x6_6.length co35 : Value).ownBlock)) (by (with_reducible repeat (first | apply Kd.R_alloc | apply Kd.R_drewN | apply Kd.R_drew)); exact HO_11.out) hg (.inl rfl)); have n3_ := Aside0.mk (hp_); have n4_ := Aside0.mk (Kd.R_over' (v := (.slice (some ⟨go62, 0, none⟩) x12_6.length co62)) (by (with_reducible repeat (first | apply Kd.R_alloc | apply Kd.R_drewN | apply Kd.R_drew)); exact HO_13.out) (Kd.R_typed HO_12.out) (by decide) hg); have n5_ := Aside0.mk ((by rw [hw]; exact below_set (HB.out) GB62.out : Below w.heap.size w w70)); clear HO_6; clear HO_7; clear HO_11; clear HO_12; clear HO_13; clear HB; have HO_6 := n0_; have HO_7 := n1_; have HO_11 := n2_; have HO_12 := n3_; have HO_13 := n4_; have HB := n5_; clear n0_ n1_ n2_ n3_ n4_ n5_; clear hg hw hp_; have p64 : 0 ≤ ((rd x13_4 x105_6) : Int) := of_decide_eq_true (by first | (with_reducible assumption) | assumption); have q64 : ((rd x13_4 x105_6) : Int) < ((x6_6.length : Int) : Int) := of_decide_eq_true (by first | (with_reducible assumption) | assumption); obtain ⟨go64, co64, eo64, gb64, gl64, cl64, HG64⟩ := Kd.R_form HO_6.out (by omega); (first | cases eo64 | (injection eo64 with ea_ en_ ec_; (first | subst ea_ | (injection ea_ with ea_; subst ea_)); subst ec_; clear en_)); have GB64 := Aside0.mk gb64; have GG64 := Aside0.mk HG64; clear gb64 gl64 HG64; obtain ⟨hx64_0, hf64_0⟩ := Kd.R_celln 0 HO_6.out ((rd x13_4 x105_6) : Int) p64 q64; replace p64 := eq_true p64; replace q64 := eq_true q64; obtain ⟨hy71_, hz71_⟩ := Kd.R_celln 0 HO_6.out ((rd x13_4 x105_6) : Int) (of_decide_eq_true (by first | (with_reducible assumption) | assumption)) (of_decide_eq_true (by first | (with_reducible assumption) | assumption)); have HP71 := Kd.R_putg HO_6.out ((rd x13_4 x105_6) : Int) (-1)) | ((with_reducible refine gate_store (t := 2) (p := 139) rfl ?_); refine store_event (t := 2) (p := 139) (v := ?vo_w72) (w1 := (w70.setCell ⟨go64, ((rd x13_4 x105_6) : Int).toNat, none⟩ (.int .i64 (-1)))) ?hg ?ho ?hn ?hr ?_; (case ho => rfl); (case hg => rfl); (case hn => rfl); (case hr => first | (go_simp; done) | (go_simp; rfl)); intro w72 hw; have hg : w70.grownBy w72 (some go64) := (by rw [hw]; exact HP71.2); have hp_ : Kd.R (Kd.int .i64) 2 w72 w.heap.size (fun k_ => some k_ ≠ (.slice Ao68 x11_2.length co68 : Value).ownBlock ∧ some k_ ≠ (.slice (some ⟨go62, 0, none⟩) x12_6.length co62 : Value).ownBlock) (.slice (some ⟨go64, 0, none⟩) x6_6.length co35) y212 := (by rw [hw, Ny212.out]; exact HP71.1); clear HP71; have n0_ := Aside0.mk (hp_); have n1_ := Aside0.mk (Kd.R_over' (v := (.slice (some ⟨go64, 0, none⟩) x6_6.length co35)) (by (with_reducible repeat (first | apply Kd.R_alloc | apply Kd.R_drewN | apply Kd.R_drew)); exact HO_7.out) (Kd.R_typed HO_6.out) (by decide) hg); have n2_ := Aside0.mk (Kd.R_after (v := (.slice (some ⟨go64, 0, none⟩) x6_6.length co35)) (v1 := (.slice (some ⟨go64, 0, none⟩) x6_6.length co35)) (ok := (fun k_ => some k_ ≠ (.slice (some ⟨go62, 0, none⟩) x12_6.length co62 : Value).ownBlock)) (by (with_reducible repeat (first | apply Kd.R_alloc | apply Kd.R_drewN | apply Kd.R_drew)); exact Kd.R_mono HO_11.out (fun _ hk => ⟨hk.2, hk.1⟩)) hg (.inl rfl)); have n3_ := Aside0.mk (Kd.R_after (v := (.slice (some ⟨go64, 0, none⟩) x6_6.length co35)) (v1 := (.slice (some ⟨go64, 0, none⟩) x6_6.length co35)) (ok := (fun k_ => some k_ ≠ (.slice Ao68 x11_2.length co68 : Value).ownBlock)) (by (with_reducible repeat (first | apply Kd.R_alloc | apply Kd.R_drewN | apply Kd.R_drew)); exact Kd.R_mono HO_12.out (fun _ hk => ⟨hk.2, hk.1⟩)) hg (.inl rfl)); have n4_ := Aside0.mk (Kd.R_over' (v := (.slice (some ⟨go64, 0, none⟩) x6_6.length co35)) (by (with_reducible repeat (first | apply Kd.R_alloc | apply Kd.R_drewN | apply Kd.R_drew)); exact HO_13.out) (Kd.R_typed HO_6.out) (by decide) hg); have n5_ := Aside0.mk ((by rw [hw]; exact below_set (HB.out) GB64.out : Below w.heap.size w w72)); clear HO_6; clear HO_7; clear HO_11; clear HO_12; clear HO_13; clear HB; have HO_6 := n0_; have HO_7 := n1_; have HO_11 := n2_; have HO_12 := n3_; have HO_13 := n4_; have HB := n5_; clear n0_ n1_ n2_ n3_ n4_ n5_; clear hg hw hp_))
                                                        (try simp only [← hl6_6])
                                                        go_roundg k6
                                                        case measure => have := HK1.out; have := HK2.out; have := HJ28.out; have := HK4.out; have := HK5.out; have := HK6.out; omega
                                                        case rel => exact ⟨(y212), (y210), (wrap64 (x8_6 - 1)), (y211), (wrap64 (x105_6 + 1)), (by first | rfl | (simp; done) | (simp [*]; done)), (by first | rfl | (simp; done) | (simp [*]; done)), H', ⟨by have := HK1.out; have := HK2.out; have := HJ28.out; have := HK4.out; have := HK5.out; have := HK6.out; omega⟩, ⟨by (try simp only [hl6_5]); (try simp only [hl6_6]); (with_reducible repeat (first | apply Kd.R_alloc | apply Kd.R_drewN | apply Kd.R_drew)); exact HO_6.out⟩, ⟨by (try simp only [hl6_5]); (try simp only [hl6_6]); (with_reducible repeat (first | apply Kd.R_alloc | apply Kd.R_drewN | apply Kd.R_drew)); exact HO_7.out⟩, ⟨by (try simp only [hl6_5]); (try simp only [hl6_6]); (with_reducible repeat (first | apply Kd.R_alloc | apply Kd.R_drewN | apply Kd.R_drew)); exact Kd.R_mono HO_11.out (fun _ hk => ⟨hk.2, hk.1⟩)⟩, ⟨by (try simp only [hl6_5]); (try simp only [hl6_6]); (with_reducible repeat (first | apply Kd.R_alloc | apply Kd.R_drewN | apply Kd.R_drew)); exact Kd.R_mono HO_12.out (fun _ hk => ⟨hk.2, hk.1⟩)⟩, ⟨by (try simp only [hl6_5]); (try simp only [hl6_6]); (with_reducible repeat (first | apply Kd.R_alloc | apply Kd.R_drewN | apply Kd.R_drew)); exact Kd.R_mono HO_13.out (fun _ hk => hk.2)⟩, ⟨by repeat (first | (with_reducible first | exact HB.out | apply below_alloc | apply pw_below_drewN | apply below_drew1) | exact HB.out)⟩⟩
                                                      · rw [if_neg c63] at H
                                                        exact absurd H (by simp)
                                                    · rw [if_neg c61] at H
                                                      exact absurd H (by simp)
                                                  · rw [if_neg c60] at H
                                                    have c60b0 : ((x13_4.length : Int) == 1) = false := beq_eq_false_iff_ne.mpr c60
                                                    have c60b1 : ((x13_4.length : Int) != 1) = true := bne_iff_ne.mpr c60
                                                    by_cases c73 : (rd x13_4 x105_6) < (l0.length : Int)
                                                    · rw [if_pos c73] at H
                                                      have c73b0 : decide ((rd x13_4 x105_6) < (l0.length : Int)) = true := decide_eq_true c73
                                                      clear c73
                                                      by_cases c74 : (rd y210 (rd x13_4 x105_6)) = ((rd_L1 l0 (rd x13_4 x105_6)).length : Int)
                                                      · rw [if_pos c74] at H
                                                        have c74b0 : ((rd y210 (rd x13_4 x105_6)) == ((rd_L1 l0 (rd x13_4 x105_6)).length : Int)) = true := beq_iff_eq.mpr c74
                                                        have c74b1 : ((rd y210 (rd x13_4 x105_6)) != ((rd_L1 l0 (rd x13_4 x105_6)).length : Int)) = false := bne_eq_false_iff_eq.mpr c74
                                                        clear c74
                                                        by_cases c75 : (rd x13_4 x105_6) < (x6_6.length : Int)
                                                        · rw [if_pos c75] at H
                                                          have c75b0 : decide ((rd x13_4 x105_6) < (x6_6.length : Int)) = true := decide_eq_true c75
                                                          have c75b0q := c75b0
                                                          (try simp only [hl6_5, hl6_6] at c75b0q)
                                                          clear c75
                                                          obtain ⟨y215, hy215⟩ : ∃ y_ : List Int, y_ = (x6_6.set ((rd x13_4 x105_6) : Int).toNat (-1)) := ⟨_, rfl⟩
                                                          replace H : (impl_BackoffRun.l4 k6 l0 y215 y210 (wrap64 (x8_6 - 1)) x11_2 x12_6 x13_4 (x13_4.length : Int) (wrap64 (x105_6 + 1))) = some (r1, r2, r3) := by first | (rw [hy215]; with_reducible exact H) | (have H2_ := (Option.bind_some _ _).symm.trans H; rw [hy215]; with_reducible exact H2_) | (have H2_ := (Option.bind_some _ _).symm.trans H; with_reducible exact H2_) | with_reducible exact H | (rw [hy215]; exact H) | exact H
                                                          have Ny215 := Aside0.mk hy215
                                                          clear hy215
                                                          have H' := Aside0.mk H
                                                          clear H
                                                          have p208 : 0 ≤ (x105_6 : Int) := of_decide_eq_true (by first | (with_reducible assumption) | assumption)
                                                          have q208 : x105_6 < (x13_4.length : Int) := of_decide_eq_true (by first | (with_reducible assumption) | assumption)
                                                          obtain ⟨ad208, e208, hx208_0⟩ := Kd.at_int (Kd.R_reads' HO_13.out).2.2 x105_6 p208 q208
                                                          cases e208
                                                          replace p208 := eq_true p208
                                                          replace q208 := eq_true q208
                                                          obtain ⟨Ao77, co77, eo77⟩ := Kd.R_slice HO_7.out
                                                          subst eo77
                                                          have p209 : 0 ≤ ((rd x13_4 x105_6) : Int) := of_decide_eq_true (by first | (with_reducible assumption) | assumption)
                                                          have q209 : (rd x13_4 x105_6) < (x7_6.length : Int) := of_decide_eq_true (by first | (with_reducible assumption) | assumption)
                                                          obtain ⟨ad209, e209, hx209_0⟩ := Kd.at_int (Kd.R_reads' HO_7.out).2.2 (rd x13_4 x105_6) p209 q209
                                                          cases e209
                                                          replace p209 := eq_true p209
                                                          replace q209 := eq_true q209
                                                          have p59 : 0 ≤ ((rd x13_4 x105_6) : Int) := of_decide_eq_true (by first | (with_reducible assumption) | assumption)
                                                          have q59 : ((rd x13_4 x105_6) : Int) < ((x7_6.length : Int) : Int) := of_decide_eq_true (by first | (with_reducible assumption) | assumption)
                                                          obtain ⟨go59, co59, eo59, gb59, gl59, cl59, HG59⟩ := Kd.R_form HO_7.out (by omega)
                                                          (first | cases eo59 | (injection eo59 with ea_ en_ ec_; (first | subst ea_ | (injection ea_ with ea_; subst ea_)); subst ec_; clear en_))
                                                          have GB59 := Aside0.mk gb59
                                                          have GG59 := Aside0.mk HG59
                                                          clear gb59 gl59 HG59
                                                          (first | simp only [add_plain] at hx209_0 | skip)
                                                          obtain ⟨hx59_0, hf59_0⟩ := Kd.R_celln 0 HO_7.out ((rd x13_4 x105_6) : Int) p59 q59
                                                          replace p59 := eq_true p59
                                                          replace q59 := eq_true q59
                                                          have HP78 := Kd.R_putg HO_7.out ((rd x13_4 x105_6) : Int) (wrap64 ((rd x7_6 (rd x13_4 x105_6)) + 1))
                                                          try go_wp2_with (first | ((with_reducible refine gate_store (t := 3) (p := 114) rfl ?_); refine store_event (t := 3) (p := 114) (v := ?vo_w79) (w1 := (wr.setCell ⟨go59, ((rd x13_4 x105_6) : Int).toNat, none⟩ (.int .i64 (wrap64 ((rd x7_6 (rd x13_4 x105_6)) + 1))))) ?hg ?ho ?hn ?hr ?_; (case ho => rfl); (case hg => rfl); (case hn => rfl); (case hr => first | (go_simp; done) | (go_simp; rfl)); intro w79 hw; have hg : wr.grownBy w79 (some go59) := (by rw [hw]; exact HP78.2); have hp_ : Kd.R (Kd.int .i64) 3 w79 w.heap.size (fun k_ => some k_ ≠ (.slice (some ad208) x13_4.length co53 : Value).ownBlock) (.slice (some ⟨go59, 0, none⟩) x7_6.length co77) y210 := (by rw [hw, Ny210.out]; exact HP78.1); clear HP78; have n0_ := Aside0.mk (Kd.R_over' (v := (.slice (some ⟨go59, 0, none⟩) x7_6.length co77)) (by (with_reducible repeat (first | apply Kd.R_alloc | apply Kd.R_drewN | apply Kd.R_drew)); exact HO_6.out) (Kd.R_typed HO_7.out) (by decide) hg); have n1_ := Aside0.mk (hp_); have n2_ := Aside0.mk (Kd.R_over' (v := (.slice (some ⟨go59, 0, none⟩) x7_6.length co77)) (by (with_reducible repeat (first | apply Kd.R_alloc | apply Kd.R_drewN | apply Kd.R_drew)); exact HO_11.out) (Kd.R_typed HO_7.out) (by decide) hg); have n3_ := Aside0.mk (Kd.R_over' (v := (.slice (some ⟨go59, 0, none⟩) x7_6.length co77)) (by (with_reducible repeat (first | apply Kd.R_alloc | apply Kd.R_drewN | apply Kd.R_drew)); exact HO_12.out) (Kd.R_typed HO_7.out) (by decide) hg); have n4_ := Aside0.mk (Kd.R_after (v := (.slice (some ⟨go59, 0, none⟩) x7_6.length co77)) (v1 := (.slice (some ⟨go59, 0, none⟩) x7_6.length co77)) (ok := (fun _ => True)) (by (with_reducible repeat (first | apply Kd.R_alloc | apply Kd.R_drewN | apply Kd.R_drew)); exact Kd.R_mono HO_13.out (fun _ hk => ⟨trivial, hk⟩)) hg (.inl rfl)); have n5_ := Aside0.mk ((by rw [hw]; exact below_set (HB.out) GB59.out : Below w.heap.size w w79)); clear HO_6; clear HO_7; clear HO_11; clear HO_12; clear HO_13; clear HB; have HO_6 := n0_; have HO_7 := n1_; have HO_11 := n2_; have HO_12 := n3_; have HO_13 := n4_; have HB := n5_; clear n0_ n1_ n2_ n3_ n4_ n5_; clear hg hw hp_))
                                                          have n0_ := Aside0.mk (Kd.R_drew HO_6.out)
                                                          have n1_ := Aside0.mk (Kd.R_drew HO_7.out)
                                                          have n2_ := Aside0.mk (Kd.R_drew HO_11.out)
                                                          have n3_ := Aside0.mk (Kd.R_drew HO_12.out)
                                                          have n4_ := Aside0.mk (Kd.R_drew HO_13.out)
                                                          have n5_ := Aside0.mk (below_drew1 HB.out)
                                                          clear HO_6
                                                          clear HO_7
                                                          clear HO_11
                                                          clear HO_12
                                                          clear HO_13
                                                          clear HB
                                                          have HO_6 := n0_
                                                          have HO_7 := n1_
                                                          have HO_11 := n2_
                                                          have HO_12 := n3_
                                                          have HO_13 := n4_
                                                          have HB := n5_
                                                          clear n0_ n1_ n2_ n3_ n4_ n5_
                                                          have p213 : 0 ≤ ((rd x13_4 x105_6) : Int) := of_decide_eq_true (by first | (with_reducible assumption) | assumption)
                                                          have q213 : (rd x13_4 x105_6) < (y210.length : Int) := (by have h_ : ((rd x13_4 x105_6) : Int) < ((x7_6.length : Int) : Int) := of_decide_eq_true (by first | (with_reducible assumption) | assumption); first | (have e_ := (Kd.R_reads' HO_7.out).1; omega) | simpa only [Ny210.out, List.length_set] using h_)
                                                          have ql213 : (((rd x13_4 x105_6) : Int) < ((x7_6.length : Int) : Int)) = True := eq_true (of_decide_eq_true (by first | (with_reducible assumption) | assumption))
                                                          obtain ⟨ad213, e213, hx213_0⟩ := Kd.at_int (Kd.R_reads' HO_7.out).2.2 (rd x13_4 x105_6) p213 q213
                                                          obtain rfl : (⟨go59, 0, none⟩ : Addr) = ad213 := (by injection e213)
                                                          (first | simp only [add_plain] at hx213_0 | simp only [add_at] at hx213_0 | simp only [Addr.add, Nat.zero_add] at hx213_0 | skip)
                                                          replace p213 := eq_true p213
                                                          replace q213 := eq_true q213
                                                          have p214 : 0 ≤ ((rd x13_4 x105_6) : Int) := of_decide_eq_true (by first | (with_reducible assumption) | assumption)
                                                          have q214 : (rd x13_4 x105_6) < (l0.length : Int) := of_decide_eq_true (by first | (with_reducible assumption) | assumption)
                                                          obtain ⟨ad214, A214_0, c214_0, e214, hx214_0, hl214_0, hi214_0⟩ := at_L1 HR0.out (rd x13_4 x105_6) p214 q214
                                                          have hw214_0 := hx214_0
                                                          cases e214
                                                          replace hx214_0 := (HB.out.cell (World.block_lt_of_cell? w _ hx214_0)).trans hx214_0
                                                          have HR214_0 := Aside0.mk hi214_0
                                                          have HC214_0 := Aside0.mk hl214_0
                                                          clear hi214_0 hl214_0
                                                          replace p214 := eq_true p214
                                                          replace q214 := eq_true q214
                                                          refine start_ (n := 11) (S := fun w' => w'.cell? ⟨go59, ((rd x13_4 x105_6)).toNat, none⟩ = some (.int .i64 (rd y210 (rd x13_4 x105_6))) ∧ w'.cell? (ad214.add ((rd x13_4 x105_6)).toNat) = some (.slice A214_0 (rd_L1 l0 (rd x13_4 x105_6)).length c214_0)) (ds := []) #[false, false, false, false, false, false, false, false, false, false, false] (by kernel_rfl) rfl rfl ⟨hx213_0, ((HB.out.cell (World.block_lt_of_cell? w _ hw214_0)).trans hw214_0)⟩ (fun hHeld => ?_); refine with_tabW impl_BackoffRun.tab37 impl_BackoffRun.bits37 (fun HT_ HW_ => ?_)
                                                          generalize w79.drew = w80 at HO_6 HO_7 HO_11 HO_12 HO_13 HB HR214_0 hx213_0 hx214_0 hHeld ⊢
                                                          refine pure_ (i := 0) (N := some 143) (v := ?_) (a' := ?_) #[true, false, false, false, false, false, false, false, false, false, false] rfl rfl (any_of HT_.out (by kernel_rfl)) (fun _ _ _ h => h) (Or.inl ⟨by rfl, ?_⟩) ?_ ?_
                                                          rotate_left
                                                          · intro w'
                                                            go_simp
                                                            with_reducible rfl
                                                          rotate_left
                                                          · simp only [Act.put, List.setIfInBounds_toArray, List.set_cons_zero, List.set_cons_succ, i64_w, i32_w]
                                                            rfl
                                                          refine pure_ (i := 1) (N := some 144) (v := ?_) (a' := ?_) #[true, true, false, false, false, false, false, false, false, false, false] rfl rfl (any_of HT_.out (by kernel_rfl)) (fun _ _ _ h => h) (Or.inl ⟨by rfl, ?_⟩) ?_ ?_
                                                          rotate_left
                                                          · intro w'
                                                            go_simp
                                                            with_reducible rfl
                                                          rotate_left
                                                          · simp only [Act.put, List.setIfInBounds_toArray, List.set_cons_zero, List.set_cons_succ, i64_w, i32_w]
                                                            rfl
                                                          refine pure_ (i := 2) (N := some 145) (v := ?_) (a' := ?_) #[true, true, true, false, false, false, false, false, false, false, false] rfl rfl (any_of HT_.out (by kernel_rfl)) (fun _ _ _ h => h) (Or.inl ⟨by rfl, ?_⟩) ?_ ?_
                                                          rotate_left
                                                          · intro w'
                                                            go_simp
                                                            with_reducible rfl
                                                          rotate_left
                                                          · simp only [Act.put, List.setIfInBounds_toArray, List.set_cons_zero, List.set_cons_succ, i64_w, i32_w]
                                                            rfl
                                                          refine pure_ (i := 4) (N := some 147) (v := ?_) (a' := ?_) #[true, true, true, false, true, false, false, false, false, false, false] rfl rfl (any_of HT_.out (by kernel_rfl)) (fun _ _ _ h => h) (Or.inl ⟨by rfl, ?_⟩) ?_ ?_
                                                          rotate_left
                                                          · intro w'
                                                            go_simp
                                                            with_reducible rfl
                                                          rotate_left
                                                          · simp only [Act.put, List.setIfInBounds_toArray, List.set_cons_zero, List.set_cons_succ, i64_w, i32_w]
                                                            rfl
                                                          refine pure_ (i := 5) (N := some 148) (v := ?_) (a' := ?_) #[true, true, true, false, true, true, false, false, false, false, false] rfl rfl (any_of HT_.out (by kernel_rfl)) (fun _ _ _ h => h) (Or.inl ⟨by rfl, ?_⟩) ?_ ?_
                                                          rotate_left
                                                          · intro w'
                                                            go_simp
                                                            with_reducible rfl
                                                          rotate_left
                                                          · simp only [Act.put, List.setIfInBounds_toArray, List.set_cons_zero, List.set_cons_succ, i64_w, i32_w]
                                                            rfl
                                                          refine pure_ (i := 6) (N := some 149) (v := ?_) (a' := ?_) #[true, true, true, false, true, true, true, false, false, false, false] rfl rfl (any_of HT_.out (by kernel_rfl)) (fun _ _ _ h => h) (Or.inl ⟨by rfl, ?_⟩) ?_ ?_
                                                          rotate_left
                                                          · intro w'
                                                            go_simp
                                                            with_reducible rfl
                                                          rotate_left
                                                          · simp only [Act.put, List.setIfInBounds_toArray, List.set_cons_zero, List.set_cons_succ, i64_w, i32_w]
                                                            rfl
                                                          refine take_ (i := 3) (N := some 146) (v := ?_) (a' := ?_) #[true, true, true, true, true, true, true, false, false, false, false] rfl rfl (take_ofW HT_.out HW_.out (by kernel_rfl)) (fun _ _ _ h => h) (Or.inl ⟨by rfl, ?_⟩) hHeld ?_ ?_
                                                          rotate_left
                                                          · rintro w' ⟨s0, s1⟩
                                                            go_simp
                                                            with_reducible rfl
                                                          rotate_left
                                                          · simp only [Act.put, List.setIfInBounds_toArray, List.set_cons_zero, List.set_cons_succ, i64_w, i32_w]
                                                            rfl
                                                          refine take_ (i := 7) (N := some 150) (v := ?_) (a' := ?_) #[true, true, true, true, true, true, true, true, false, false, false] rfl rfl (take_ofW HT_.out HW_.out (by kernel_rfl)) (fun _ _ _ h => h) (Or.inl ⟨by rfl, ?_⟩) hHeld ?_ ?_
                                                          rotate_left
                                                          · rintro w' ⟨s0, s1⟩
                                                            go_simp
                                                            with_reducible rfl
                                                          rotate_left
                                                          · simp only [Act.put, List.setIfInBounds_toArray, List.set_cons_zero, List.set_cons_succ, i64_w, i32_w]
                                                            rfl
                                                          refine pure_ (i := 8) (N := some 151) (v := ?_) (a' := ?_) #[true, true, true, true, true, true, true, true, true, false, false] rfl rfl (any_of HT_.out (by kernel_rfl)) (fun _ _ _ h => h) (Or.inl ⟨by rfl, ?_⟩) ?_ ?_
                                                          rotate_left
                                                          · intro w'
                                                            go_simp
                                                            with_reducible rfl
                                                          rotate_left
                                                          · simp only [Act.put, List.setIfInBounds_toArray, List.set_cons_zero, List.set_cons_succ, i64_w, i32_w]
                                                            rfl
                                                          refine pure_ (i := 9) (N := some 152) (v := ?_) (a' := ?_) #[true, true, true, true, true, true, true, true, true, true, false] rfl rfl (any_of HT_.out (by kernel_rfl)) (fun _ _ _ h => h) (Or.inl ⟨by rfl, ?_⟩) ?_ ?_
                                                          rotate_left
                                                          · intro w'
                                                            go_simp
                                                            with_reducible rfl
                                                          rotate_left
                                                          · simp only [Act.put, List.setIfInBounds_toArray, List.set_cons_zero, List.set_cons_succ, i64_w, i32_w]
                                                            rfl
                                                          refine pure_ (i := 10) (N := some 142) (v := ?_) (a' := ?_) #[true, true, true, true, true, true, true, true, true, true, true] rfl rfl (any_of HT_.out (by kernel_rfl)) (fun _ _ _ h => h) (Or.inl ⟨by rfl, ?_⟩) ?_ ?_
                                                          rotate_left
                                                          · intro w'
                                                            go_simp
                                                            with_reducible rfl
                                                          rotate_left
                                                          · simp only [Act.put, List.setIfInBounds_toArray, List.set_cons_zero, List.set_cons_succ, i64_w, i32_w]
                                                            rfl
                                                          refine done_ (done_of HT_.out (by kernel_rfl)) ?_
                                                          have p76 : 0 ≤ ((rd x13_4 x105_6) : Int) := of_decide_eq_true (by first | (with_reducible assumption) | assumption)
                                                          have q76 : ((rd x13_4 x105_6) : Int) < ((x6_6.length : Int) : Int) := of_decide_eq_true (by first | (with_reducible assumption) | assumption)
                                                          obtain ⟨go76, co76, eo76, gb76, gl76, cl76, HG76⟩ := Kd.R_form HO_6.out (by omega)
                                                          (first | cases eo76 | (injection eo76 with ea_ en_ ec_; (first | subst ea_ | (injection ea_ with ea_; subst ea_)); subst ec_; clear en_))
                                                          have GB76 := Aside0.mk gb76
                                                          have GG76 := Aside0.mk HG76
                                                          clear gb76 gl76 HG76
                                                          obtain ⟨hx76_0, hf76_0⟩ := Kd.R_celln 0 HO_6.out ((rd x13_4 x105_6) : Int) p76 q76
                                                          replace p76 := eq_true p76
                                                          replace q76 := eq_true q76
                                                          obtain ⟨hy81_, hz81_⟩ := Kd.R_celln 0 HO_6.out ((rd x13_4 x105_6) : Int) (of_decide_eq_true (by first | (with_reducible assumption) | assumption)) (of_decide_eq_true (by first | (with_reducible assumption) | assumption))
                                                          have HP81 := Kd.R_putg HO_6.out ((rd x13_4 x105_6) : Int) (-1)
                                                          try go_wp2_with (first | ((with_reducible refine gate_store (t := 2) (p := 155) rfl ?_); refine store_event (t := 2) (p := 155) (v := ?vo_w82) (w1 := (w80.setCell ⟨go76, ((rd x13_4 x105_6) : Int).toNat, none⟩ (.int .i64 (-1)))) ?hg ?ho ?hn ?hr ?_; (case ho => rfl); (case hg => rfl); (case hn => rfl); (case hr => first | (go_simp; done) | (go_simp; rfl)); intro w82 hw; have hg : w80.grownBy w82 (some go76) := (by rw [hw]; exact HP81.2); have hp_ : Kd.R (Kd.int .i64) 2 w82 w.heap.size (fun k_ => some k_ ≠ (u11 : Value).ownBlock ∧ some k_ ≠ (v193 : Value).ownBlock) (.slice (some ⟨go76, 0, none⟩) x6_6.length co35) y215 := (by rw [hw, Ny215.out]; exact HP81.1); clear HP81; have n0_ := Aside0.mk (hp_); have n1_ := Aside0.mk (Kd.R_over' (v := (.slice (some ⟨go76, 0, none⟩) x6_6.length co35)) (by (with_reducible repeat (first | apply Kd.R_alloc | apply Kd.R_drewN | apply Kd.R_drew)); exact HO_7.out) (Kd.R_typed HO_6.out) (by decide) hg); have n2_ := Aside0.mk (Kd.R_after (v := (.slice (some ⟨go76, 0, none⟩) x6_6.length co35)) (v1 := (.slice (some ⟨go76, 0, none⟩) x6_6.length co35)) (ok := (fun k_ => some k_ ≠ (v193 : Value).ownBlock)) (by (with_reducible repeat (first | apply Kd.R_alloc | apply Kd.R_drewN | apply Kd.R_drew)); exact Kd.R_mono HO_11.out (fun _ hk => ⟨hk.2, hk.1⟩)) hg (.inl rfl)); have n3_ := Aside0.mk (Kd.R_after (v := (.slice (some ⟨go76, 0, none⟩) x6_6.length co35)) (v1 := (.slice (some ⟨go76, 0, none⟩) x6_6.length co35)) (ok := (fun k_ => some k_ ≠ (u11 : Value).ownBlock)) (by (with_reducible repeat (first | apply Kd.R_alloc | apply Kd.R_drewN | apply Kd.R_drew)); exact Kd.R_mono HO_12.out (fun _ hk => ⟨hk.2, hk.1⟩)) hg (.inl rfl)); have n4_ := Aside0.mk (Kd.R_over' (v := (.slice (some ⟨go76, 0, none⟩) x6_6.length co35)) (by (with_reducible repeat (first | apply Kd.R_alloc | apply Kd.R_drewN | apply Kd.R_drew)); exact HO_13.out) (Kd.R_typed HO_6.out) (by decide) hg); have n5_ := Aside0.mk ((by rw [hw]; exact below_set (HB.out) GB76.out : Below w.heap.size w w82)); clear HO_6; clear HO_7; clear HO_11; clear HO_12; clear HO_13; clear HB; have HO_6 := n0_; have HO_7 := n1_; have HO_11 := n2_; have HO_12 := n3_; have HO_13 := n4_; have HB := n5_; clear n0_ n1_ n2_ n3_ n4_ n5_; clear hg hw hp_))
                                                          (try simp only [← hl6_6])
                                                          go_roundg k6
                                                          case measure => have := HK1.out; have := HK2.out; have := HJ28.out; have := HK4.out; have := HK5.out; have := HK6.out; omega
                                                          case rel => exact ⟨(y215), (y210), (wrap64 (x8_6 - 1)), (x12_6), (wrap64 (x105_6 + 1)), (by first | rfl | (simp; done) | (simp [*]; done)), (by first | rfl | (simp; done) | (simp [*]; done)), H', ⟨by have := HK1.out; have := HK2.out; have := HJ28.out; have := HK4.out; have := HK5.out; have := HK6.out; omega⟩, ⟨by (try simp only [hl6_5]); (try simp only [hl6_6]); (with_reducible repeat (first | apply Kd.R_alloc | apply Kd.R_drewN | apply Kd.R_drew)); exact HO_6.out⟩, ⟨by (try simp only [hl6_5]); (try simp only [hl6_6]); (with_reducible repeat (first | apply Kd.R_alloc | apply Kd.R_drewN | apply Kd.R_drew)); exact HO_7.out⟩, ⟨by (try simp only [hl6_5]); (try simp only [hl6_6]); (with_reducible repeat (first | apply Kd.R_alloc | apply Kd.R_drewN | apply Kd.R_drew)); exact Kd.R_mono HO_11.out (fun _ hk => ⟨hk.2, hk.1⟩)⟩, ⟨by (try simp only [hl6_5]); (try simp only [hl6_6]); (with_reducible repeat (first | apply Kd.R_alloc | apply Kd.R_drewN | apply Kd.R_drew)); exact Kd.R_mono HO_12.out (fun _ hk => ⟨hk.2, hk.1⟩)⟩, ⟨by (try simp only [hl6_5]); (try simp only [hl6_6]); (with_reducible repeat (first | apply Kd.R_alloc | apply Kd.R_drewN | apply Kd.R_drew)); exact Kd.R_mono HO_13.out (fun _ hk => hk.2)⟩, ⟨by repeat (first | (with_reducible first | exact HB.out | apply below_alloc | apply pw_below_drewN | apply below_drew1) | exact HB.out)⟩⟩
                                                        · rw [if_neg c75] at H
                                                          exact absurd H (by simp)
                                                      · rw [if_neg c74] at H
                                                        have c74b0 : ((rd y210 (rd x13_4 x105_6)) == ((rd_L1 l0 (rd x13_4 x105_6)).length : Int)) = false := beq_eq_false_iff_ne.mpr c74
                                                        have c74b1 : ((rd y210 (rd x13_4 x105_6)) != ((rd_L1 l0 (rd x13_4 x105_6)).length : Int)) = true := bne_iff_ne.mpr c74
                                                        by_cases c83 : 0 ≤ (rd y210 (rd x13_4 x105_6))
                                                        · rw [if_pos c83] at H
                                                          have c83b0 : decide (0 ≤ (rd y210 (rd x13_4 x105_6))) = true := decide_eq_true c83
                                                          clear c83
                                                          by_cases c84 : (rd y210 (rd x13_4 x105_6)) < ((rd_L1 l0 (rd x13_4 x105_6)).length : Int)
                                                          · rw [if_pos c84] at H
                                                            have c84b0 : decide ((rd y210 (rd x13_4 x105_6)) < ((rd_L1 l0 (rd x13_4 x105_6)).length : Int)) = true := decide_eq_true c84
                                                            clear c84
                                                            by_cases c85 : (rd x13_4 x105_6) < (x6_6.length : Int)
                                                            · rw [if_pos c85] at H
                                                              have c85b0 : decide ((rd x13_4 x105_6) < (x6_6.length : Int)) = true := decide_eq_true c85
                                                              have c85b0q := c85b0
                                                              (try simp only [hl6_5, hl6_6] at c85b0q)
                                                              clear c85
                                                              obtain ⟨y219, hy219⟩ : ∃ y_ : List Int, y_ = (x6_6.set ((rd x13_4 x105_6) : Int).toNat (rd (rd_L1 l0 (rd x13_4 x105_6)) (rd y210 (rd x13_4 x105_6)))) := ⟨_, rfl⟩
                                                              replace H : (impl_BackoffRun.l4 k6 l0 y219 y210 x8_6 x11_2 x12_6 x13_4 (x13_4.length : Int) (wrap64 (x105_6 + 1))) = some (r1, r2, r3) := by first | (rw [hy219]; with_reducible exact H) | (have H2_ := (Option.bind_some _ _).symm.trans H; rw [hy219]; with_reducible exact H2_) | (have H2_ := (Option.bind_some _ _).symm.trans H; with_reducible exact H2_) | with_reducible exact H | (rw [hy219]; exact H) | exact H
                                                              have Ny219 := Aside0.mk hy219
                                                              clear hy219
                                                              have H' := Aside0.mk H
                                                              clear H
                                                              have p208 : 0 ≤ (x105_6 : Int) := of_decide_eq_true (by first | (with_reducible assumption) | assumption)
                                                              have q208 : x105_6 < (x13_4.length : Int) := of_decide_eq_true (by first | (with_reducible assumption) | assumption)
                                                              obtain ⟨ad208, e208, hx208_0⟩ := Kd.at_int (Kd.R_reads' HO_13.out).2.2 x105_6 p208 q208
                                                              cases e208
                                                              replace p208 := eq_true p208
                                                              replace q208 := eq_true q208
                                                              obtain ⟨Ao87, co87, eo87⟩ := Kd.R_slice HO_7.out
                                                              subst eo87
                                                              have p209 : 0 ≤ ((rd x13_4 x105_6) : Int) := of_decide_eq_true (by first | (with_reducible assumption) | assumption)
                                                              have q209 : (rd x13_4 x105_6) < (x7_6.length : Int) := of_decide_eq_true (by first | (with_reducible assumption) | assumption)
                                                              obtain ⟨ad209, e209, hx209_0⟩ := Kd.at_int (Kd.R_reads' HO_7.out).2.2 (rd x13_4 x105_6) p209 q209
                                                              cases e209
                                                              replace p209 := eq_true p209
                                                              replace q209 := eq_true q209
                                                              have p59 : 0 ≤ ((rd x13_4 x105_6) : Int) := of_decide_eq_true (by first | (with_reducible assumption) | assumption)
                                                              have q59 : ((rd x13_4 x105_6) : Int) < ((x7_6.length : Int) : Int) := of_decide_eq_true (by first | (with_reducible assumption) | assumption)
                                                              obtain ⟨go59, co59, eo59, gb59, gl59, cl59, HG59⟩ := Kd.R_form HO_7.out (by omega)
                                                              (first | cases eo59 | (injection eo59 with ea_ en_ ec_; (first | subst ea_ | (injection ea_ with ea_; subst ea_)); subst ec_; clear en_))
                                                              have GB59 := Aside0.mk gb59
                                                              have GG59 := Aside0.mk HG59
                                                              clear gb59 gl59 HG59
                                                              (first | simp only [add_plain] at hx209_0 | skip)
                                                              obtain ⟨hx59_0, hf59_0⟩ := Kd.R_celln 0 HO_7.out ((rd x13_4 x105_6) : Int) p59 q59
                                                              replace p59 := eq_true p59
                                                              replace q59 := eq_true q59
                                                              have HP88 := Kd.R_putg HO_7.out ((rd x13_4 x105_6) : Int) (wrap64 ((rd x7_6 (rd x13_4 x105_6)) + 1))
                                                              try go_wp2_with (first | ((with_reducible refine gate_store (t := 3) (p := 114) rfl ?_); refine store_event (t := 3) (p := 114) (v := ?vo_w89) (w1 := (wr.setCell ⟨go59, ((rd x13_4 x105_6) : Int).toNat, none⟩ (.int .i64 (wrap64 ((rd x7_6 (rd x13_4 x105_6)) + 1))))) ?hg ?ho ?hn ?hr ?_; (case ho => rfl); (case hg => rfl); (case hn => rfl); (case hr => first | (go_simp; done) | (go_simp; rfl)); intro w89 hw; have hg : wr.grownBy w89 (some go59) := (by rw [hw]; exact HP88.2); have hp_ : Kd.R (Kd.int .i64) 3 w89 w.heap.size (fun k_ => some k_ ≠ (.slice (some ad208) x13_4.length co53 : Value).ownBlock) (.slice (some ⟨go59, 0, none⟩) x7_6.length co87) y210 := (by rw [hw, Ny210.out]; exact HP88.1); clear HP88; have n0_ := Aside0.mk (Kd.R_over' (v := (.slice (some ⟨go59, 0, none⟩) x7_6.length co87)) (by (with_reducible repeat (first | apply Kd.R_alloc | apply Kd.R_drewN | apply Kd.R_drew)); exact HO_6.out) (Kd.R_typed HO_7.out) (by decide) hg); have n1_ := Aside0.mk (hp_); have n2_ := Aside0.mk (Kd.R_over' (v := (.slice (some ⟨go59, 0, none⟩) x7_6.length co87)) (by (with_reducible repeat (first | apply Kd.R_alloc | apply Kd.R_drewN | apply Kd.R_drew)); exact HO_11.out) (Kd.R_typed HO_7.out) (by decide) hg); have n3_ := Aside0.mk (Kd.R_over' (v := (.slice (some ⟨go59, 0, none⟩) x7_6.length co87)) (by (with_reducible repeat (first | apply Kd.R_alloc | apply Kd.R_drewN | apply Kd.R_drew)); exact HO_12.out) (Kd.R_typed HO_7.out) (by decide) hg); have n4_ := Aside0.mk (Kd.R_after (v := (.slice (some ⟨go59, 0, none⟩) x7_6.length co87)) (v1 := (.slice (some ⟨go59, 0, none⟩) x7_6.length co87)) (ok := (fun _ => True)) (by (with_reducible repeat (first | apply Kd.R_alloc | apply Kd.R_drewN | apply Kd.R_drew)); exact Kd.R_mono HO_13.out (fun _ hk => ⟨trivial, hk⟩)) hg (.inl rfl)); have n5_ := Aside0.mk ((by rw [hw]; exact below_set (HB.out) GB59.out : Below w.heap.size w w89)); clear HO_6; clear HO_7; clear HO_11; clear HO_12; clear HO_13; clear HB; have HO_6 := n0_; have HO_7 := n1_; have HO_11 := n2_; have HO_12 := n3_; have HO_13 := n4_; have HB := n5_; clear n0_ n1_ n2_ n3_ n4_ n5_; clear hg hw hp_))
                                                              have n0_ := Aside0.mk (Kd.R_drew HO_6.out)
                                                              have n1_ := Aside0.mk (Kd.R_drew HO_7.out)
                                                              have n2_ := Aside0.mk (Kd.R_drew HO_11.out)
                                                              have n3_ := Aside0.mk (Kd.R_drew HO_12.out)
                                                              have n4_ := Aside0.mk (Kd.R_drew HO_13.out)
                                                              have n5_ := Aside0.mk (below_drew1 HB.out)
                                                              clear HO_6
                                                              clear HO_7
                                                              clear HO_11
                                                              clear HO_12
                                                              clear HO_13
                                                              clear HB
                                                              have HO_6 := n0_
                                                              have HO_7 := n1_
                                                              have HO_11 := n2_
                                                              have HO_12 := n3_
                                                              have HO_13 := n4_
                                                              have HB := n5_
                                                              clear n0_ n1_ n2_ n3_ n4_ n5_
                                                              have p213 : 0 ≤ ((rd x13_4 x105_6) : Int) := of_decide_eq_true (by first | (with_reducible assumption) | assumption)
                                                              have q213 : (rd x13_4 x105_6) < (y210.length : Int) := (by have h_ : ((rd x13_4 x105_6) : Int) < ((x7_6.length : Int) : Int) := of_decide_eq_true (by first | (with_reducible assumption) | assumption); first | (have e_ := (Kd.R_reads' HO_7.out).1; omega) | simpa only [Ny210.out, List.length_set] using h_)
                                                              have ql213 : (((rd x13_4 x105_6) : Int) < ((x7_6.length : Int) : Int)) = True := eq_true (of_decide_eq_true (by first | (with_reducible assumption) | assumption))
                                                              obtain ⟨ad213, e213, hx213_0⟩ := Kd.at_int (Kd.R_reads' HO_7.out).2.2 (rd x13_4 x105_6) p213 q213
                                                              obtain rfl : (⟨go59, 0, none⟩ : Addr) = ad213 := (by injection e213)
                                                              (first | simp only [add_plain] at hx213_0 | simp only [add_at] at hx213_0 | simp only [Addr.add, Nat.zero_add] at hx213_0 | skip)
                                                              replace p213 := eq_true p213
                                                              replace q213 := eq_true q213
                                                              have p214 : 0 ≤ ((rd x13_4 x105_6) : Int) := of_decide_eq_true (by first | (with_reducible assumption) | assumption)
                                                              have q214 : (rd x13_4 x105_6) < (l0.length : Int) := of_decide_eq_true (by first | (with_reducible assumption) | assumption)
                                                              obtain ⟨ad214, A214_0, c214_0, e214, hx214_0, hl214_0, hi214_0⟩ := at_L1 HR0.out (rd x13_4 x105_6) p214 q214
                                                              have hw214_0 := hx214_0
                                                              cases e214
                                                              replace hx214_0 := (HB.out.cell (World.block_lt_of_cell? w _ hx214_0)).trans hx214_0
                                                              have HR214_0 := Aside0.mk hi214_0
                                                              have HC214_0 := Aside0.mk hl214_0
                                                              clear hi214_0 hl214_0
                                                              replace p214 := eq_true p214
                                                              replace q214 := eq_true q214
                                                              refine start_ (n := 11) (S := fun w' => w'.cell? ⟨go59, ((rd x13_4 x105_6)).toNat, none⟩ = some (.int .i64 (rd y210 (rd x13_4 x105_6))) ∧ w'.cell? (ad214.add ((rd x13_4 x105_6)).toNat) = some (.slice A214_0 (rd_L1 l0 (rd x13_4 x105_6)).length c214_0)) (ds := []) #[false, false, false, false, false, false, false, false, false, false, false] (by kernel_rfl) rfl rfl ⟨hx213_0, ((HB.out.cell (World.block_lt_of_cell? w _ hw214_0)).trans hw214_0)⟩ (fun hHeld => ?_); refine with_tabW impl_BackoffRun.tab37 impl_BackoffRun.bits37 (fun HT_ HW_ => ?_)
                                                              generalize w89.drew = w90 at HO_6 HO_7 HO_11 HO_12 HO_13 HB HR214_0 hx213_0 hx214_0 hHeld ⊢
                                                              refine pure_ (i := 0) (N := some 143) (v := ?_) (a' := ?_) #[true, false, false, false, false, false, false, false, false, false, false] rfl rfl (any_of HT_.out (by kernel_rfl)) (fun _ _ _ h => h) (Or.inl ⟨by rfl, ?_⟩) ?_ ?_
                                                              rotate_left
                                                              · intro w'
                                                                go_simp
                                                                with_reducible rfl
                                                              rotate_left
                                                              · simp only [Act.put, List.setIfInBounds_toArray, List.set_cons_zero, List.set_cons_succ, i64_w, i32_w]
                                                                rfl
                                                              refine pure_ (i := 1) (N := some 144) (v := ?_) (a' := ?_) #[true, true, false, false, false, false, false, false, false, false, false] rfl rfl (any_of HT_.out (by kernel_rfl)) (fun _ _ _ h => h) (Or.inl ⟨by rfl, ?_⟩) ?_ ?_
                                                              rotate_left
                                                              · intro w'
                                                                go_simp
                                                                with_reducible rfl
                                                              rotate_left
                                                              · simp only [Act.put, List.setIfInBounds_toArray, List.set_cons_zero, List.set_cons_succ, i64_w, i32_w]
                                                                rfl
                                                              refine pure_ (i := 2) (N := some 145) (v := ?_) (a' := ?_) #[true, true, true, false, false, false, false, false, false, false, false] rfl rfl (any_of HT_.out (by kernel_rfl)) (fun _ _ _ h => h) (Or.inl ⟨by rfl, ?_⟩) ?_ ?_
                                                              rotate_left
                                                              · intro w'
                                                                go_simp
                                                                with_reducible rfl
                                                              rotate_left
                                                              · simp only [Act.put, List.setIfInBounds_toArray, List.set_cons_zero, List.set_cons_succ, i64_w, i32_w]
                                                                rfl
                                                              refine pure_ (i := 4) (N := some 147) (v := ?_) (a' := ?_) #[true, true, true, false, true, false, false, false, false, false, false] rfl rfl (any_of HT_.out (by kernel_rfl)) (fun _ _ _ h => h) (Or.inl ⟨by rfl, ?_⟩) ?_ ?_
                                                              rotate_left
                                                              · intro w'
                                                                go_simp
                                                                with_reducible rfl
                                                              rotate_left
                                                              · simp only [Act.put, List.setIfInBounds_toArray, List.set_cons_zero, List.set_cons_succ, i64_w, i32_w]
                                                                rfl
                                                              refine pure_ (i := 5) (N := some 148) (v := ?_) (a' := ?_) #[true, true, true, false, true, true, false, false, false, false, false] rfl rfl (any_of HT_.out (by kernel_rfl)) (fun _ _ _ h => h) (Or.inl ⟨by rfl, ?_⟩) ?_ ?_
                                                              rotate_left
                                                              · intro w'
                                                                go_simp
                                                                with_reducible rfl
                                                              rotate_left
                                                              · simp only [Act.put, List.setIfInBounds_toArray, List.set_cons_zero, List.set_cons_succ, i64_w, i32_w]
                                                                rfl
                                                              refine pure_ (i := 6) (N := some 149) (v := ?_) (a' := ?_) #[true, true, true, false, true, true, true, false, false, false, false] rfl rfl (any_of HT_.out (by kernel_rfl)) (fun _ _ _ h => h) (Or.inl ⟨by rfl, ?_⟩) ?_ ?_
                                                              rotate_left
                                                              · intro w'
                                                                go_simp
                                                                with_reducible rfl
                                                              rotate_left
                                                              · simp only [Act.put, List.setIfInBounds_toArray, List.set_cons_zero, List.set_cons_succ, i64_w, i32_w]
                                                                rfl
                                                              refine take_ (i := 3) (N := some 146) (v := ?_) (a' := ?_) #[true, true, true, true, true, true, true, false, false, false, false] rfl rfl (take_ofW HT_.out HW_.out (by kernel_rfl)) (fun _ _ _ h => h) (Or.inl ⟨by rfl, ?_⟩) hHeld ?_ ?_
                                                              rotate_left
                                                              · rintro w' ⟨s0, s1⟩
                                                                go_simp
                                                                with_reducible rfl
                                                              rotate_left
                                                              · simp only [Act.put, List.setIfInBounds_toArray, List.set_cons_zero, List.set_cons_succ, i64_w, i32_w]
                                                                rfl
                                                              refine take_ (i := 7) (N := some 150) (v := ?_) (a' := ?_) #[true, true, true, true, true, true, true, true, false, false, false] rfl rfl (take_ofW HT_.out HW_.out (by kernel_rfl)) (fun _ _ _ h => h) (Or.inl ⟨by rfl, ?_⟩) hHeld ?_ ?_
                                                              rotate_left
                                                              · rintro w' ⟨s0, s1⟩
                                                                go_simp
                                                                with_reducible rfl
                                                              rotate_left
                                                              · simp only [Act.put, List.setIfInBounds_toArray, List.set_cons_zero, List.set_cons_succ, i64_w, i32_w]
                                                                rfl
                                                              refine pure_ (i := 8) (N := some 151) (v := ?_) (a' := ?_) #[true, true, true, true, true, true, true, true, true, false, false] rfl rfl (any_of HT_.out (by kernel_rfl)) (fun _ _ _ h => h) (Or.inl ⟨by rfl, ?_⟩) ?_ ?_
                                                              rotate_left
                                                              · intro w'
                                                                go_simp
                                                                with_reducible rfl
                                                              rotate_left
                                                              · simp only [Act.put, List.setIfInBounds_toArray, List.set_cons_zero, List.set_cons_succ, i64_w, i32_w]
                                                                rfl
                                                              refine pure_ (i := 9) (N := some 152) (v := ?_) (a' := ?_) #[true, true, true, true, true, true, true, true, true, true, false] rfl rfl (any_of HT_.out (by kernel_rfl)) (fun _ _ _ h => h) (Or.inl ⟨by rfl, ?_⟩) ?_ ?_
                                                              rotate_left
                                                              · intro w'
                                                                go_simp
                                                                with_reducible rfl
                                                              rotate_left
                                                              · simp only [Act.put, List.setIfInBounds_toArray, List.set_cons_zero, List.set_cons_succ, i64_w, i32_w]
                                                                rfl
                                                              refine pure_ (i := 10) (N := some 142) (v := ?_) (a' := ?_) #[true, true, true, true, true, true, true, true, true, true, true] rfl rfl (any_of HT_.out (by kernel_rfl)) (fun _ _ _ h => h) (Or.inl ⟨by rfl, ?_⟩) ?_ ?_
                                                              rotate_left
                                                              · intro w'
                                                                go_simp
                                                                with_reducible rfl
                                                              rotate_left
                                                              · simp only [Act.put, List.setIfInBounds_toArray, List.set_cons_zero, List.set_cons_succ, i64_w, i32_w]
                                                                rfl
                                                              refine done_ (done_of HT_.out (by kernel_rfl)) ?_
                                                              try go_wp2
                                                              have n0_ := Aside0.mk (Kd.R_drew HO_6.out)
                                                              have n1_ := Aside0.mk (Kd.R_drew HO_7.out)
                                                              have n2_ := Aside0.mk (Kd.R_drew HO_11.out)
                                                              have n3_ := Aside0.mk (Kd.R_drew HO_12.out)
                                                              have n4_ := Aside0.mk (Kd.R_drew HO_13.out)
                                                              have n5_ := Aside0.mk (below_drew1 HB.out)
                                                              clear HO_6
                                                              clear HO_7
                                                              clear HO_11
                                                              clear HO_12
                                                              clear HO_13
                                                              clear HB
                                                              have HO_6 := n0_
                                                              have HO_7 := n1_
                                                              have HO_11 := n2_
                                                              have HO_12 := n3_
                                                              have HO_13 := n4_
                                                              have HB := n5_
                                                              clear n0_ n1_ n2_ n3_ n4_ n5_
                                                              have p216 : 0 ≤ ((rd x13_4 x105_6) : Int) := of_decide_eq_true (by first | (with_reducible assumption) | assumption)
                                                              have q216 : (rd x13_4 x105_6) < (l0.length : Int) := of_decide_eq_true (by first | (with_reducible assumption) | assumption)
                                                              obtain ⟨ad216, A216_0, c216_0, e216, hx216_0, hl216_0, hi216_0⟩ := at_L1 HR0.out (rd x13_4 x105_6) p216 q216
                                                              have hw216_0 := hx216_0
                                                              obtain rfl : ad214 = ad216 := (by injection e216)
                                                              replace hx216_0 := (HB.out.cell (World.block_lt_of_cell? w _ hx216_0)).trans hx216_0
                                                              have HR216_0 := Aside0.mk hi216_0
                                                              have HC216_0 := Aside0.mk hl216_0
                                                              clear hi216_0 hl216_0
                                                              replace p216 := eq_true p216
                                                              replace q216 := eq_true q216
                                                              have p217 : 0 ≤ ((rd x13_4 x105_6) : Int) := of_decide_eq_true (by first | (with_reducible assumption) | assumption)
                                                              have q217 : (rd x13_4 x105_6) < (y210.length : Int) := (by have h_ : ((rd x13_4 x105_6) : Int) < ((x7_6.length : Int) : Int) := of_decide_eq_true (by first | (with_reducible assumption) | assumption); first | (have e_ := (Kd.R_reads' HO_7.out).1; omega) | simpa only [Ny210.out, List.length_set] using h_)
                                                              have ql217 : (((rd x13_4 x105_6) : Int) < ((x7_6.length : Int) : Int)) = True := eq_true (of_decide_eq_true (by first | (with_reducible assumption) | assumption))
                                                              obtain ⟨ad217, e217, hx217_0⟩ := Kd.at_int (Kd.R_reads' HO_7.out).2.2 (rd x13_4 x105_6) p217 q217
                                                              obtain rfl : (⟨go59, 0, none⟩ : Addr) = ad217 := (by injection e217)
                                                              (first | simp only [add_plain] at hx217_0 | simp only [add_at] at hx217_0 | simp only [Addr.add, Nat.zero_add] at hx217_0 | skip)
                                                              replace p217 := eq_true p217
                                                              replace q217 := eq_true q217
                                                              have p218 : 0 ≤ ((rd y210 (rd x13_4 x105_6)) : Int) := of_decide_eq_true (by first | (with_reducible assumption) | assumption)
                                                              have q218 : (rd y210 (rd x13_4 x105_6)) < ((rd_L1 l0 (rd x13_4 x105_6)).length : Int) := of_decide_eq_true (by first | (with_reducible assumption) | assumption)
                                                              obtain ⟨ad218, e218, hx218_0⟩ := Kd.at_int HR216_0.out (rd y210 (rd x13_4 x105_6)) p218 q218
                                                              have hw218_0 := hx218_0
                                                              cases e218
                                                              replace hx218_0 := (HB.out.cell (World.block_lt_of_cell? w _ hx218_0)).trans hx218_0
                                                              replace p218 := eq_true p218
                                                              replace q218 := eq_true q218
                                                              have p86 : 0 ≤ ((rd x13_4 x105_6) : Int) := of_decide_eq_true (by first | (with_reducible assumption) | assumption)
                                                              have q86 : ((rd x13_4 x105_6) : Int) < ((x6_6.length : Int) : Int) := of_decide_eq_true (by first | (with_reducible assumption) | assumption)
                                                              obtain ⟨go86, co86, eo86, gb86, gl86, cl86, HG86⟩ := Kd.R_form HO_6.out (by omega)
                                                              (first | cases eo86 | (injection eo86 with ea_ en_ ec_; (first | subst ea_ | (injection ea_ with ea_; subst ea_)); subst ec_; clear en_))
                                                              have GB86 := Aside0.mk gb86
                                                              have GG86 := Aside0.mk HG86
                                                              clear gb86 gl86 HG86
                                                              obtain ⟨hx86_0, hf86_0⟩ := Kd.R_celln 0 HO_6.out ((rd x13_4 x105_6) : Int) p86 q86
                                                              replace p86 := eq_true p86
                                                              replace q86 := eq_true q86
                                                              have HP92 := Kd.R_putn HO_6.out ((rd x13_4 x105_6) : Int) (rd (rd_L1 l0 (rd x13_4 x105_6)) (rd y210 (rd x13_4 x105_6)))
                                                              rw [← Ny219.out] at HP92
                                                              have HQ92 := Aside0.mk HP92
                                                              clear HP92
                                                              refine start_ (n := 14) (S := fun w' => w'.cell? (ad214.add ((rd x13_4 x105_6)).toNat) = some (.slice (some ad218) (rd_L1 l0 (rd x13_4 x105_6)).length c216_0) ∧ w'.cell? ⟨go59, ((rd x13_4 x105_6)).toNat, none⟩ = some (.int .i64 (rd y210 (rd x13_4 x105_6))) ∧ w'.cell? (ad218.add ((rd y210 (rd x13_4 x105_6))).toNat) = some (.int .i64 (rd (rd_L1 l0 (rd x13_4 x105_6)) (rd y210 (rd x13_4 x105_6))))) (ds := [13]) #[false, false, false, false, false, false, false, false, false, false, false, false, false, false] (by kernel_rfl) rfl rfl ⟨((HB.out.cell (World.block_lt_of_cell? w _ hw216_0)).trans hw216_0), hx217_0, ((HB.out.cell (World.block_lt_of_cell? w _ hw218_0)).trans hw218_0)⟩ (fun hHeld => ?_); refine with_tabW impl_BackoffRun.tab32 impl_BackoffRun.bits32 (fun HT_ HW_ => ?_)
                                                              generalize w90.drew = w91 at HO_6 HO_7 HO_11 HO_12 HO_13 HB GG86 HQ92 HR216_0 hf86_0 hx216_0 hx217_0 hx218_0 hx86_0 hHeld ⊢
                                                              refine pure_ (i := 0) (N := some 115) (v := ?_) (a' := ?_) #[true, false, false, false, false, false, false, false, false, false, false, false, false, false] rfl rfl (any_of HT_.out (by kernel_rfl)) (fun _ _ _ h => h) (Or.inl ⟨by rfl, ?_⟩) ?_ ?_
                                                              rotate_left
                                                              · intro w'
                                                                go_simp
                                                                with_reducible rfl
                                                              rotate_left
                                                              · simp only [Act.put, List.setIfInBounds_toArray, List.set_cons_zero, List.set_cons_succ, i64_w, i32_w]
                                                                rfl
                                                              refine pure_ (i := 1) (N := some 116) (v := ?_) (a' := ?_) #[true, true, false, false, false, false, false, false, false, false, false, false, false, false] rfl rfl (any_of HT_.out (by kernel_rfl)) (fun _ _ _ h => h) (Or.inl ⟨by rfl, ?_⟩) ?_ ?_
                                                              rotate_left
                                                              · intro w'
                                                                go_simp
                                                                with_reducible rfl
                                                              rotate_left
                                                              · simp only [Act.put, List.setIfInBounds_toArray, List.set_cons_zero, List.set_cons_succ, i64_w, i32_w]
                                                                rfl
                                                              refine pure_ (i := 2) (N := some 117) (v := ?_) (a' := ?_) #[true, true, true, false, false, false, false, false, false, false, false, false, false, false] rfl rfl (any_of HT_.out (by kernel_rfl)) (fun _ _ _ h => h) (Or.inl ⟨by rfl, ?_⟩) ?_ ?_
                                                              rotate_left
                                                              · intro w'
                                                                go_simp
                                                                with_reducible rfl
                                                              rotate_left
                                                              · simp only [Act.put, List.setIfInBounds_toArray, List.set_cons_zero, List.set_cons_succ, i64_w, i32_w]
                                                                rfl
                                                              refine pure_ (i := 3) (N := some 118) (v := ?_) (a' := ?_) #[true, true, true, true, false, false, false, false, false, false, false, false, false, false] rfl rfl (any_of HT_.out (by kernel_rfl)) (fun _ _ _ h => h) (Or.inl ⟨by rfl, ?_⟩) ?_ ?_
                                                              rotate_left
                                                              · intro w'
                                                                go_simp
                                                                with_reducible rfl
                                                              rotate_left
                                                              · simp only [Act.put, List.setIfInBounds_toArray, List.set_cons_zero, List.set_cons_succ, i64_w, i32_w]
                                                                rfl
                                                              refine pure_ (i := 4) (N := some 119) (v := ?_) (a' := ?_) #[true, true, true, true, true, false, false, false, false, false, false, false, false, false] rfl rfl (any_of HT_.out (by kernel_rfl)) (fun _ _ _ h => h) (Or.inl ⟨by rfl, ?_⟩) ?_ ?_
                                                              rotate_left
                                                              · intro w'
                                                                go_simp
                                                                with_reducible rfl
                                                              rotate_left
                                                              · simp only [Act.put, List.setIfInBounds_toArray, List.set_cons_zero, List.set_cons_succ, i64_w, i32_w]
                                                                rfl
                                                              refine pure_ (i := 6) (N := some 121) (v := ?_) (a' := ?_) #[true, true, true, true, true, false, true, false, false, false, false, false, false, false] rfl rfl (any_of HT_.out (by kernel_rfl)) (fun _ _ _ h => h) (Or.inl ⟨by rfl, ?_⟩) ?_ ?_
                                                              rotate_left
                                                              · intro w'
                                                                go_simp
                                                                with_reducible rfl
                                                              rotate_left
                                                              · simp only [Act.put, List.setIfInBounds_toArray, List.set_cons_zero, List.set_cons_succ, i64_w, i32_w]
                                                                rfl
                                                              refine pure_ (i := 7) (N := some 122) (v := ?_) (a' := ?_) #[true, true, true, true, true, false, true, true, false, false, false, false, false, false] rfl rfl (any_of HT_.out (by kernel_rfl)) (fun _ _ _ h => h) (Or.inl ⟨by rfl, ?_⟩) ?_ ?_
                                                              rotate_left
                                                              · intro w'
                                                                go_simp
                                                                with_reducible rfl
                                                              rotate_left
                                                              · simp only [Act.put, List.setIfInBounds_toArray, List.set_cons_zero, List.set_cons_succ, i64_w, i32_w]
                                                                rfl
                                                              refine pure_ (i := 8) (N := some 123) (v := ?_) (a' := ?_) #[true, true, true, true, true, false, true, true, true, false, false, false, false, false] rfl rfl (any_of HT_.out (by kernel_rfl)) (fun _ _ _ h => h) (Or.inl ⟨by rfl, ?_⟩) ?_ ?_
                                                              rotate_left
                                                              · intro w'
                                                                go_simp
                                                                with_reducible rfl
                                                              rotate_left
                                                              · simp only [Act.put, List.setIfInBounds_toArray, List.set_cons_zero, List.set_cons_succ, i64_w, i32_w]
                                                                rfl
                                                              refine take_ (i := 5) (N := some 120) (v := ?_) (a' := ?_) #[true, true, true, true, true, true, true, true, true, false, false, false, false, false] rfl rfl (take_ofW HT_.out HW_.out (by kernel_rfl)) (fun _ _ _ h => h) (Or.inl ⟨by rfl, ?_⟩) hHeld ?_ ?_
                                                              rotate_left
                                                              · rintro w' ⟨s0, s1, s2⟩
                                                                go_simp
                                                                with_reducible rfl
                                                              rotate_left
                                                              · simp only [Act.put, List.setIfInBounds_toArray, List.set_cons_zero, List.set_cons_succ, i64_w, i32_w]
                                                                rfl
                                                              refine take_ (i := 9) (N := some 124) (v := ?_) (a' := ?_) #[true, true, true, true, true, true, true, true, true, true, false, false, false, false] rfl rfl (take_ofW HT_.out HW_.out (by kernel_rfl)) (fun _ _ _ h => h) (Or.inl ⟨by rfl, ?_⟩) hHeld ?_ ?_
                                                              rotate_left
                                                              · rintro w' ⟨s0, s1, s2⟩
                                                                go_simp
                                                                with_reducible rfl
                                                              rotate_left
                                                              · simp only [Act.put, List.setIfInBounds_toArray, List.set_cons_zero, List.set_cons_succ, i64_w, i32_w]
                                                                rfl
                                                              refine pure_ (i := 10) (N := some 125) (v := ?_) (a' := ?_) #[true, true, true, true, true, true, true, true, true, true, true, false, false, false] rfl rfl (any_of HT_.out (by kernel_rfl)) (fun _ _ _ h => h) (Or.inl ⟨by rfl, ?_⟩) ?_ ?_
                                                              rotate_left
                                                              · intro w'
                                                                go_simp
                                                                with_reducible rfl
                                                              rotate_left
                                                              · simp only [Act.put, List.setIfInBounds_toArray, List.set_cons_zero, List.set_cons_succ, i64_w, i32_w]
                                                                rfl
                                                              refine take_ (i := 11) (N := some 126) (v := ?_) (a' := ?_) #[true, true, true, true, true, true, true, true, true, true, true, true, false, false] rfl rfl (take_ofW HT_.out HW_.out (by kernel_rfl)) (fun _ _ _ h => h) (Or.inl ⟨by rfl, ?_⟩) hHeld ?_ ?_
                                                              rotate_left
                                                              · rintro w' ⟨s0, s1, s2⟩
                                                                go_simp
                                                                with_reducible rfl
                                                              rotate_left
                                                              · simp only [Act.put, List.setIfInBounds_toArray, List.set_cons_zero, List.set_cons_succ, i64_w, i32_w]
                                                                rfl
                                                              refine pure_ (i := 12) (N := some 127) (v := ?_) (a' := ?_) #[true, true, true, true, true, true, true, true, true, true, true, true, true, false] rfl rfl (any_of HT_.out (by kernel_rfl)) (fun _ _ _ h => h) (Or.inl ⟨by rfl, ?_⟩) ?_ ?_
                                                              rotate_left
                                                              · intro w'
                                                                go_simp
                                                                with_reducible rfl
                                                              rotate_left
                                                              · simp only [Act.put, List.setIfInBounds_toArray, List.set_cons_zero, List.set_cons_succ, i64_w, i32_w]
                                                                rfl
                                                              refine last_ (i := 13) (N := none) #[true, true, true, true, true, true, true, true, true, true, true, true, true, true] rfl rfl (one_of HT_.out (by kernel_rfl)) (by decide) (fun K hK => ?_)
                                                              refine skip_ (w1 := ?_) (by rfl) rfl ?_ ?_
                                                              rotate_left
                                                              · go_simp
                                                                rfl
                                                              refine hK.out _ _ ?_
                                                              clear hK K
                                                              refine done_ (done_of HT_.out (by kernel_rfl)) ?_
                                                              try go_wp2
                                                              (try simp only [← hl6_6])
                                                              go_roundg k6
                                                              case measure => have := HK1.out; have := HK2.out; have := HJ28.out; have := HK4.out; have := HK5.out; have := HK6.out; omega
                                                              case rel => exact ⟨(y219), (y210), (x8_6), (x12_6), (wrap64 (x105_6 + 1)), (by first | rfl | (simp; done) | (simp [*]; done)), (by first | rfl | (simp; done) | (simp [*]; done)), H', ⟨by have := HK1.out; have := HK2.out; have := HJ28.out; have := HK4.out; have := HK5.out; have := HK6.out; omega⟩, ⟨by (try simp only [hl6_5]); (try simp only [hl6_6]); (with_reducible repeat (first | apply Kd.R_alloc | apply Kd.R_drewN | apply Kd.R_drew)); exact HQ92.out⟩, ⟨by (try simp only [hl6_5]); (try simp only [hl6_6]); (with_reducible repeat (first | apply Kd.R_alloc | apply Kd.R_drewN | apply Kd.R_drew)); exact Kd.R_mono (Kd.R_far (p := ⟨go86, ((rd x13_4 x105_6) : Int).toNat, none⟩) (Kd.R_types HO_7.out GG86.out (by decide)) (fun _ hk => hk.2) (.int .i64 (rd (rd_L1 l0 (rd x13_4 x105_6)) (rd y210 (rd x13_4 x105_6))))) (fun _ hk => hk.1)⟩, ⟨by (try simp only [hl6_5]); (try simp only [hl6_6]); (with_reducible repeat (first | apply Kd.R_alloc | apply Kd.R_drewN | apply Kd.R_drew)); exact Kd.R_mono (Kd.R_far (p := ⟨go86, ((rd x13_4 x105_6) : Int).toNat, none⟩) (Kd.R_mono HO_11.out (fun k_ hk => (⟨hk, fun e_ => hk.1 (by rw [e_]; rfl)⟩ : _ ∧ k_ ≠ go86))) (fun _ hk => hk.2) (.int .i64 (rd (rd_L1 l0 (rd x13_4 x105_6)) (rd y210 (rd x13_4 x105_6))))) (fun _ hk => ⟨hk.1.1, hk.1.2⟩)⟩, ⟨by (try simp only [hl6_5]); (try simp only [hl6_6]); (with_reducible repeat (first | apply Kd.R_alloc | apply Kd.R_drewN | apply Kd.R_drew)); exact Kd.R_mono (Kd.R_far (p := ⟨go86, ((rd x13_4 x105_6) : Int).toNat, none⟩) (Kd.R_mono HO_12.out (fun k_ hk => (⟨hk, fun e_ => hk.1 (by rw [e_]; rfl)⟩ : _ ∧ k_ ≠ go86))) (fun _ hk => hk.2) (.int .i64 (rd (rd_L1 l0 (rd x13_4 x105_6)) (rd y210 (rd x13_4 x105_6))))) (fun _ hk => ⟨hk.1.1, hk.1.2⟩)⟩, ⟨by (try simp only [hl6_5]); (try simp only [hl6_6]); (with_reducible repeat (first | apply Kd.R_alloc | apply Kd.R_drewN | apply Kd.R_drew)); exact Kd.R_mono (Kd.R_far (p := ⟨go86, ((rd x13_4 x105_6) : Int).toNat, none⟩) (Kd.R_types HO_13.out GG86.out (by decide)) (fun _ hk => hk.2) (.int .i64 (rd (rd_L1 l0 (rd x13_4 x105_6)) (rd y210 (rd x13_4 x105_6))))) (fun _ hk => hk.1.2)⟩, ⟨by repeat (first | (with_reducible first | exact HB.out | apply below_alloc | apply pw_below_drewN | apply below_drew1 | refine below_set ?_ GB86.out) | exact HB.out)⟩⟩
                                                            · rw [if_neg c85] at H
                                                              exact absurd H (by simp)
                                                          · rw [if_neg c84] at H
                                                            exact absurd H (by simp)
                                                        · rw [if_neg c83] at H
                                                          exact absurd H (by simp)
                                                    · rw [if_neg c73] at H
                                                      exact absurd H (by simp)
                                                · rw [if_neg c58] at H
                                                  exact absurd H (by simp)
                                              · rw [if_neg c57] at H
                                                exact absurd H (by simp)
                                            · rw [if_neg c56] at H
                                              exact absurd H (by simp)
                                          · rw [if_neg c55] at H
                                            exact absurd H (by simp)
                                        · rw [if_neg c54] at H
                                          have c54b0 : decide (x105_6 < (x13_4.length : Int)) = false := decide_eq_false c54
                                          clear c54
                                          by_cases c93 : x11_2.length < 17592186044416
                                          · rw [if_pos c93] at H
                                            have LMc93 := Aside0.mk c93
                                            clear c93
                                            obtain ⟨y205, hy205⟩ : ∃ y_ : List Int, y_ = (x11_2 ++ [(x13_4.length : Int)]) := ⟨_, rfl⟩
                                            replace H : (impl_BackoffRun.l1 k6 l0 x6_6 x8_6 y205 x7_6 x12_6) = some (r1, r2, r3) := by first | (rw [hy205]; with_reducible exact H) | (have H2_ := (Option.bind_some _ _).symm.trans H; rw [hy205]; with_reducible exact H2_) | (have H2_ := (Option.bind_some _ _).symm.trans H; with_reducible exact H2_) | with_reducible exact H | (rw [hy205]; exact H) | exact H
                                            have Ny205 := Aside0.mk hy205
                                            clear hy205
                                            have H' := Aside0.mk H
                                            clear H
                                            go_wp2_with (first | ((with_reducible refine gate_builtin (b := .append) (xs := #[.tmp 159, .tmp 162]) rfl ?_); (try (refine gate_guard (by rfl) ?_; dsimp only)); at_builtin; refine Kd.R_append (Kd.int .i64) (w0 := w) w.heap.size rfl (.tmp 159) (.tmp 162) 24 2 (.int .i64 0) 8 rfl Try.underlying24 info2 rfl (by decide) (by omega) u11 x11_2 (x13_4.length : Int) [.int .i64 (x13_4.length : Int)] (fun k_ => some k_ ≠ (.slice Ao35 x6_6.length co35 : Value).ownBlock ∧ some k_ ≠ (v193 : Value).ownBlock) (fun _ => False) rfl rfl ?aP (fun _ hk => hk.elim) ?aF ?aO ?aB ?aS ?aL ?_; (case aP => exact rfl); (case aB => exact (by repeat (first | (with_reducible first | exact HB.out | apply below_alloc | apply pw_below_drewN | apply below_drew1) | exact HB.out))); (case aF => exact (fun k_ hk => ⟨Kd.fresh' (Kd.R_lt (by (with_reducible repeat (first | apply Kd.R_alloc | apply Kd.R_drewN | apply Kd.R_drew)); exact HO_6.out)) k_ hk, Kd.fresh' (Kd.R_lt (by (with_reducible repeat (first | apply Kd.R_alloc | apply Kd.R_drewN | apply Kd.R_drew)); exact HO_12.out)) k_ hk⟩)); (case aO => exact (by (with_reducible repeat (first | apply Kd.R_alloc | apply Kd.R_drewN | apply Kd.R_drew)); exact HO_11.out)); (case aS => exact (below_size (by repeat (first | (with_reducible first | exact HB.out | apply below_alloc | apply pw_below_drewN | apply below_drew1) | exact HB.out)))); (case aL => have := LMc93.out; omega); intro v206 w94 ho hb hg hat; rw [← Ny205.out] at ho; have n0_ := Aside0.mk (Kd.R_after (ok := (fun k_ => some k_ ≠ (v193 : Value).ownBlock)) (by (with_reducible repeat (first | apply Kd.R_alloc | apply Kd.R_drewN | apply Kd.R_drew)); exact Kd.R_mono HO_6.out (fun _ hk => ⟨hk.2, hk.1⟩)) hg hat); have n1_ := Aside0.mk (Kd.R_over' (by (with_reducible repeat (first | apply Kd.R_alloc | apply Kd.R_drewN | apply Kd.R_drew)); exact HO_7.out) (Kd.R_typed (by (with_reducible repeat (first | apply Kd.R_alloc | apply Kd.R_drewN | apply Kd.R_drew)); exact HO_11.out)) (by decide) hg); have n2_ := Aside0.mk (Kd.R_after (ok := (fun k_ => some k_ ≠ (.slice Ao35 x6_6.length co35 : Value).ownBlock)) (by (with_reducible repeat (first | apply Kd.R_alloc | apply Kd.R_drewN | apply Kd.R_drew)); exact HO_12.out) hg hat); have n3_ := Aside0.mk (Kd.R_over' (by (with_reducible repeat (first | apply Kd.R_alloc | apply Kd.R_drewN | apply Kd.R_drew)); exact HO_13.out) (Kd.R_typed (by (with_reducible repeat (first | apply Kd.R_alloc | apply Kd.R_drewN | apply Kd.R_drew)); exact HO_11.out)) (by decide) hg); have n4_ := Aside0.mk (hb); have n5_ := Aside0.mk (ho); clear HO_6; clear HO_7; clear HO_12; clear HO_13; clear HB; clear HO_11; have HO_6 := n0_; have HO_7 := n1_; have HO_12 := n2_; have HO_13 := n3_; have HB := n4_; have HO207 := n5_; clear n0_ n1_ n2_ n3_ n4_ n5_; clear ho hb hg hat))
                                            (try simp only [← hl6_5, ← hl6_6])
                                            go_roundg k6
                                            case measure => have := HK1.out; have := HK2.out; have := HJ28.out; have := HK4.out; have := HK5.out; have := HK6.out; omega
                                            case rel => exact ⟨(x6_6), (x8_6), (y205), (x7_6), (x12_6), (by first | rfl | (simp; done) | (simp [*]; done)), H', ⟨by have := HK1.out; have := HK2.out; have := HJ28.out; have := HK4.out; have := HK5.out; have := HK6.out; omega⟩, ⟨by (try simp only [hl6_5]); (try simp only [hl6_6]); (with_reducible repeat (first | apply Kd.R_alloc | apply Kd.R_drewN | apply Kd.R_drew)); exact Kd.R_mono HO_6.out (fun _ hk => ⟨hk.2, hk.1⟩)⟩, ⟨by (try simp only [hl6_5]); (try simp only [hl6_6]); (with_reducible repeat (first | apply Kd.R_alloc | apply Kd.R_drewN | apply Kd.R_drew)); exact HO207.out⟩, ⟨by (try simp only [hl6_5]); (try simp only [hl6_6]); (with_reducible repeat (first | apply Kd.R_alloc | apply Kd.R_drewN | apply Kd.R_drew)); exact Kd.R_mono HO_7.out (fun _ hk => trivial)⟩, ⟨by (try simp only [hl6_5]); (try simp only [hl6_6]); (with_reducible repeat (first | apply Kd.R_alloc | apply Kd.R_drewN | apply Kd.R_drew)); exact HO_12.out⟩, ⟨by repeat (first | (with_reducible first | exact HB.out | apply below_alloc | apply pw_below_drewN | apply below_drew1) | exact HB.out)⟩⟩
                                          · rw [if_neg c93] at H
                                            exact absurd H (by simp)
                      · replace c32 := Bool.eq_false_iff.mpr c32
                        subst c32
                        have H1 : (some (x11_2, x59_2, true)) = some (r1, r2, r3) := by rw [if_neg (show ¬ (false = true) by decide)] at H; exact H
                        clear H
                        have H := H1
                        clear H1
                        simp only [Option.some.injEq, Prod.mk.injEq] at H
                        obtain ⟨rfl, rfl, rfl⟩ := H
                        go_wp2
                        go_ret3
                        exact ⟨_, _, by first | rfl | (simp [errW_none, errW_some] <;> rfl) | (simp [*, errW_none, errW_some] <;> rfl), by (with_reducible repeat (first | apply Kd.R_alloc | apply Kd.R_drewN | apply Kd.R_drew)); exact Kd.R_mono HO_11.out (fun _ hk => hk.2), by (with_reducible repeat (first | apply Kd.R_alloc | apply Kd.R_drewN | apply Kd.R_drew)); exact Kd.R_mono HO_12.out (fun _ hk => hk.2), by repeat (first | (with_reducible first | exact HB.out | apply below_alloc | apply pw_below_drewN | apply below_drew1) | exact HB.out)⟩
      · rw [if_neg c5] at H
        exact absurd H (by simp)
    · rw [if_neg c4] at H
      exact absurd H (by simp)
  · replace c3 := Bool.eq_false_iff.mpr c3
    subst c3
    have H1 : (some (([] : List Int), ([] : List Int), false)) = some (r1, r2, r3) := by rw [if_neg (show ¬ (false = true) by decide)] at H; exact H
    clear H
    have H := H1
    clear H1
    simp only [Option.some.injEq, Prod.mk.injEq] at H
    obtain ⟨rfl, rfl, rfl⟩ := H
    go_enter Try.func7, Try.ntmps7
    go_wp2_with (first | ((with_reducible refine gate_callee (f := 16) rfl ?_); refine goesL_ (some 23) rfl rfl Try.func16 (by kernel_rfl) rfl #[.int .i64 (l0.length : Int)] rfl (by (try simp only [List.map_toArray, List.map_cons, List.map_nil]); first | done | rfl | (simp only [List.length_drop, List.length_take]; rfl)) ?_; (with_reducible refine (impl_areStations.calls (l0.length : Int) false _ A2.out).mono ?_); rintro e w' ⟨rfl, ⟨nd, rfl⟩⟩; refine ⟨_, rfl, ?_⟩))
    go_ret3
    exact ⟨_, _, by first | rfl | (simp [errW_none, errW_some] <;> rfl) | (simp [*, errW_none, errW_some] <;> rfl), by first | exact Kd.R_nil _ _ _ _ _ | exact Kd.N_nil _ _ _ _ _ | exact Kd.V_nil _ _ _ _ _ | exact Kd.Q_nil _ _ _ _ _ | exact Kd.S_nil _ _ _ _ _, by first | exact Kd.R_nil _ _ _ _ _ | exact Kd.N_nil _ _ _ _ _ | exact Kd.V_nil _ _ _ _ _ | exact Kd.Q_nil _ _ _ _ _ | exact Kd.S_nil _ _ _ _ _, by repeat (first | (with_reducible first | exact HB.out | apply below_alloc | apply pw_below_drewN | apply below_drew1) | exact HB.out)⟩

end Go.Proofs.Ytohdepanfnaddaa.QFnExactBackoffRun
