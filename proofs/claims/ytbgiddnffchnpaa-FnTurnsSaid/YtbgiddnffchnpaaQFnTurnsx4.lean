/- FnTurns: functions that it reaches, with what they compute and the proof that they do; written by a program of this session (wip/myprint.py). -/
import Derived.Test.YtbgiddnffchnpaaQFnTurnsx0
import Derived.Test.YtbgiddnffchnpaaQFnTurnsx1
import Derived.Test.YtbgiddnffchnpaaQFnTurnsx2
import Derived.Test.YtbgiddnffchnpaaQFnTurnsx3
namespace Go.Proofs.Ytbgiddnffchnpaa.QFnTurns
open Go.RowKit Go.Proofs.YtbgiddnffchnpaaW.PrintWords Go.Proofs.YtbgiddnffchnpaaW.PrintLast Go.Proofs.YtbgiddnffchnpaaW.PrintMore
attribute [local go_sem] max2_int min2_int max_two min_two max_three min_three max_four min_four   -- for this text's walks alone
set_option linter.unusedVariables false
set_option linter.unusedSimpArgs false

/-! ### laws_FnTurns: function 9 -/
mutual
def laws_FnTurns.j0 : Nat → List Int → Int → Int → List Int → List Int → Int → List (List Int) → Bool → Option (Bool)
  | 0, _, _, _, _, _, _, _, _ => none
  | k + 1, x5, x6, x8, x9, x12, x13, x15, x91 => if x91 = true then (some false) else (laws_FnTurns.l0 k x5 x6 x8 x9 x12 x13 x15 0 0 0)
def laws_FnTurns.l0 : Nat → List Int → Int → Int → List Int → List Int → Int → List (List Int) → Int → Int → Int → Option (Bool)
  | 0, _, _, _, _, _, _, _, _, _, _ => none
  | k + 1, x5, x6, x8, x9, x12, x13, x15, x17, x18, x19 => if x19 < (x5.length : Int) then (if 0 ≤ x19 then (if x19 < (x9.length : Int) then (if (rd x9 x19) = x17 then (if x19 < (x12.length : Int) then (if (rd x12 x19) < (rd x5 x19) then (laws_FnTurns.j2 k x5 x6 x8 x9 x12 x13 x15 x17 x18 x19 true) else (laws_FnTurns.j2 k x5 x6 x8 x9 x12 x13 x15 x17 x18 x19 (((rd x12 x19) == 0) != ((rd x5 x19) == 0)))) else (none)) else (laws_FnTurns.j2 k x5 x6 x8 x9 x12 x13 x15 x17 x18 x19 true)) else (none)) else (none)) else (if x18 = x13 then ((laws_b10Sum.f k x5).bind fun t213 => (laws_FnTurns.j3 k x5 x8 x15 (decide (x13 < t213)))) else (laws_FnTurns.j3 k x5 x8 x15 true))
def laws_FnTurns.j2 : Nat → List Int → Int → Int → List Int → List Int → Int → List (List Int) → Int → Int → Int → Bool → Option (Bool)
  | 0, _, _, _, _, _, _, _, _, _, _, _ => none
  | k + 1, x5, x6, x8, x9, x12, x13, x15, x17, x18, x19, x127 => if x127 = true then (some false) else (if 0 ≤ x19 then (if x19 < (x5.length : Int) then (if x19 < (x12.length : Int) then (if (rd x12 x19) > x18 then (laws_FnTurns.l0 k x5 x6 x8 x9 x12 x13 x15 (wrap64 (x17 + (wrap64 ((rd x5 x19) + x6)))) (rd x12 x19) (wrap64 (x19 + 1))) else (laws_FnTurns.l0 k x5 x6 x8 x9 x12 x13 x15 (wrap64 (x17 + (wrap64 ((rd x5 x19) + x6)))) x18 (wrap64 (x19 + 1)))) else (none)) else (none)) else (none))
def laws_FnTurns.j3 : Nat → List Int → Int → List (List Int) → Bool → Option (Bool)
  | 0, _, _, _, _ => none
  | k + 1, x5, x8, x15, x154 => if x154 = true then (some false) else (if 0 ≤ (x5.length : Int) then (if ((x5.length : Int) : Int).toNat ≤ 35184372088832 then (laws_FnTurns.l1 k x5 x8 x15 (List.replicate ((x5.length : Int) : Int).toNat 0) 0) else (none)) else (none))
def laws_FnTurns.l1 : Nat → List Int → Int → List (List Int) → List Int → Int → Option (Bool)
  | 0, _, _, _, _, _ => none
  | k + 1, x5, x8, x15, x20, x21 => if x21 < (x15.length : Int) then (if 0 ≤ x21 then (if ((rd_L2 x15 x21).length : Int) = 0 then (laws_FnTurns.j5 k x5 x8 x15 x20 x21 true) else (if ((rd_L2 x15 x21).length : Int) > x8 then (laws_FnTurns.j5 k x5 x8 x15 x20 x21 true) else (if (wrap64 (x21 + 1)) < (x15.length : Int) then (laws_FnTurns.j5 k x5 x8 x15 x20 x21 (((rd_L2 x15 x21).length : Int) != x8)) else (laws_FnTurns.j5 k x5 x8 x15 x20 x21 false)))) else (none)) else ((laws_b10Nums.f k x20 x5).bind fun t217 => (some t217))
def laws_FnTurns.j5 : Nat → List Int → Int → List (List Int) → List Int → Int → Bool → Option (Bool)
  | 0, _, _, _, _, _, _ => none
  | k + 1, x5, x8, x15, x20, x21, x194 => if x194 = true then (some false) else (laws_FnTurns.l2 k x5 x8 x15 x20 x21 0)
def laws_FnTurns.l2 : Nat → List Int → Int → List (List Int) → List Int → Int → Int → Option (Bool)
  | 0, _, _, _, _, _, _ => none
  | k + 1, x5, x8, x15, x20, x21, x22 => if 0 ≤ x21 then (if x21 < (x15.length : Int) then (if x22 < ((rd_L2 x15 x21).length : Int) then (if 0 ≤ x22 then (if (rd (rd_L2 x15 x21) x22) < 0 then (some false) else (if (rd (rd_L2 x15 x21) x22) ≥ (x5.length : Int) then (some false) else (if 0 ≤ (rd (rd_L2 x15 x21) x22) then (if (rd (rd_L2 x15 x21) x22) < (x20.length : Int) then (laws_FnTurns.l2 k x5 x8 x15 (x20.set ((rd (rd_L2 x15 x21) x22) : Int).toNat (wrap64 ((rd x20 (rd (rd_L2 x15 x21) x22)) + 1))) x21 (wrap64 (x22 + 1))) else (none)) else (none)))) else (none)) else (laws_FnTurns.l1 k x5 x8 x15 x20 (wrap64 (x21 + 1)))) else (none)) else (none)
end
def laws_FnTurns.f (k : Nat) (l0 : List Int) (l1 : List Int) : Option (Bool) := (laws_b10Long.f l0 l1).bind fun t183 => (if t183 = true then (some true) else ((spec_B10Needs.f k l0).bind fun t184 => ((laws_b10At.f l1 0 4).bind fun t187 => ((laws_b10At.f l1 1 4).bind fun t188 => ((laws_b10At.f l1 2 5).bind fun t189 => ((impl_PollCycle.f k t184 t187).bind fun bt190 => ((impl_TokenRounds.f k t184 (wrap64 (1 + t188)) t187).bind fun bt195 => ((impl_ReserveSlots.f k t184 (wrap64 (1 + t189))).bind fun bt200 => (if bt190.2.2 = true then (if bt195.2.2 = true then (if bt200.2 = true then (if (bt190.1.length : Int) = (t184.length : Int) then (if (bt195.1.length : Int) = (t184.length : Int) then ((laws_b10Sum.f k t184).bind fun t204 => (laws_FnTurns.j0 k t184 t187 (wrap64 (1 + t189)) bt190.1 bt195.1 bt195.2.1 bt200.1 (bt190.2.1 != (wrap64 (t204 + (wrap64 (t187 * (t184.length : Int)))))))) else (laws_FnTurns.j0 k t184 t187 (wrap64 (1 + t189)) bt190.1 bt195.1 bt195.2.1 bt200.1 true)) else (laws_FnTurns.j0 k t184 t187 (wrap64 (1 + t189)) bt190.1 bt195.1 bt195.2.1 bt200.1 true)) else (laws_FnTurns.j0 k t184 t187 (wrap64 (1 + t189)) bt190.1 bt195.1 bt195.2.1 bt200.1 true)) else (laws_FnTurns.j0 k t184 t187 (wrap64 (1 + t189)) bt190.1 bt195.1 bt195.2.1 bt200.1 true)) else (laws_FnTurns.j0 k t184 t187 (wrap64 (1 + t189)) bt190.1 bt195.1 bt195.2.1 bt200.1 true))))))))))
theorem laws_FnTurns.mono_l : ∀ k, (∀ y0 y1 y2 y3 y4 y5 y6 y7, LeO (laws_FnTurns.j0 k y0 y1 y2 y3 y4 y5 y6 y7) (laws_FnTurns.j0 (k + 1) y0 y1 y2 y3 y4 y5 y6 y7)) ∧ (∀ y0 y1 y2 y3 y4 y5 y6 y7 y8 y9, LeO (laws_FnTurns.l0 k y0 y1 y2 y3 y4 y5 y6 y7 y8 y9) (laws_FnTurns.l0 (k + 1) y0 y1 y2 y3 y4 y5 y6 y7 y8 y9)) ∧ (∀ y0 y1 y2 y3 y4 y5 y6 y7 y8 y9 y10, LeO (laws_FnTurns.j2 k y0 y1 y2 y3 y4 y5 y6 y7 y8 y9 y10) (laws_FnTurns.j2 (k + 1) y0 y1 y2 y3 y4 y5 y6 y7 y8 y9 y10)) ∧ (∀ y0 y1 y2 y3, LeO (laws_FnTurns.j3 k y0 y1 y2 y3) (laws_FnTurns.j3 (k + 1) y0 y1 y2 y3)) ∧ (∀ y0 y1 y2 y3 y4, LeO (laws_FnTurns.l1 k y0 y1 y2 y3 y4) (laws_FnTurns.l1 (k + 1) y0 y1 y2 y3 y4)) ∧ (∀ y0 y1 y2 y3 y4 y5, LeO (laws_FnTurns.j5 k y0 y1 y2 y3 y4 y5) (laws_FnTurns.j5 (k + 1) y0 y1 y2 y3 y4 y5)) ∧ (∀ y0 y1 y2 y3 y4 y5, LeO (laws_FnTurns.l2 k y0 y1 y2 y3 y4 y5) (laws_FnTurns.l2 (k + 1) y0 y1 y2 y3 y4 y5))
  | 0 => ⟨fun _ _ _ _ _ _ _ _ r h => by simp [laws_FnTurns.j0] at h, fun _ _ _ _ _ _ _ _ _ _ r h => by simp [laws_FnTurns.l0] at h, fun _ _ _ _ _ _ _ _ _ _ _ r h => by simp [laws_FnTurns.j2] at h, fun _ _ _ _ r h => by simp [laws_FnTurns.j3] at h, fun _ _ _ _ _ r h => by simp [laws_FnTurns.l1] at h, fun _ _ _ _ _ _ r h => by simp [laws_FnTurns.j5] at h, fun _ _ _ _ _ _ r h => by simp [laws_FnTurns.l2] at h⟩
  | k + 1 => by
    obtain ⟨ih0, ih1, ih2, ih3, ih4, ih5, ih6⟩ := laws_FnTurns.mono_l k
    refine ⟨?_, ?_, ?_, ?_, ?_, ?_, ?_⟩
    · intro y0 y1 y2 y3 y4 y5 y6 y7
      unfold laws_FnTurns.j0
      repeat' first
      | (with_reducible exact ih0 _ _ _ _ _ _ _ _)
      | (with_reducible exact ih1 _ _ _ _ _ _ _ _ _ _)
      | (with_reducible exact ih2 _ _ _ _ _ _ _ _ _ _ _)
      | (with_reducible exact ih3 _ _ _ _)
      | (with_reducible exact ih4 _ _ _ _ _)
      | (with_reducible exact ih5 _ _ _ _ _ _)
      | (with_reducible exact ih6 _ _ _ _ _ _)
      | (with_reducible exact impl_PollCycle.mono _ _ _)
      | (with_reducible exact impl_ReserveSlots.mono _ _ _)
      | (with_reducible exact impl_TokenRounds.mono _ _ _ _)
      | (with_reducible exact laws_b10Nums.mono _ _ _)
      | (with_reducible exact laws_b10Sum.mono _ _)
      | (with_reducible exact spec_B10Needs.mono _ _)
      | (with_reducible exact LeO.refl _)
      | (with_reducible exact LeO.none _)
      | (with_reducible refine LeO.ite ?_ ?_)
      | (with_reducible refine LeO.bind ?_ (fun _ => ?_))
      | exact ih0 _ _ _ _ _ _ _ _
      | exact ih1 _ _ _ _ _ _ _ _ _ _
      | exact ih2 _ _ _ _ _ _ _ _ _ _ _
      | exact ih3 _ _ _ _
      | exact ih4 _ _ _ _ _
      | exact ih5 _ _ _ _ _ _
      | exact ih6 _ _ _ _ _ _
      | exact impl_PollCycle.mono _ _ _
      | exact impl_ReserveSlots.mono _ _ _
      | exact impl_TokenRounds.mono _ _ _ _
      | exact laws_b10Nums.mono _ _ _
      | exact laws_b10Sum.mono _ _
      | exact spec_B10Needs.mono _ _
      | exact LeO.none _
      | refine LeO.ite ?_ ?_
      | refine LeO.bind ?_ (fun _ => ?_)
    · intro y0 y1 y2 y3 y4 y5 y6 y7 y8 y9
      unfold laws_FnTurns.l0
      repeat' first
      | (with_reducible exact ih0 _ _ _ _ _ _ _ _)
      | (with_reducible exact ih1 _ _ _ _ _ _ _ _ _ _)
      | (with_reducible exact ih2 _ _ _ _ _ _ _ _ _ _ _)
      | (with_reducible exact ih3 _ _ _ _)
      | (with_reducible exact ih4 _ _ _ _ _)
      | (with_reducible exact ih5 _ _ _ _ _ _)
      | (with_reducible exact ih6 _ _ _ _ _ _)
      | (with_reducible exact impl_PollCycle.mono _ _ _)
      | (with_reducible exact impl_ReserveSlots.mono _ _ _)
      | (with_reducible exact impl_TokenRounds.mono _ _ _ _)
      | (with_reducible exact laws_b10Nums.mono _ _ _)
      | (with_reducible exact laws_b10Sum.mono _ _)
      | (with_reducible exact spec_B10Needs.mono _ _)
      | (with_reducible exact LeO.refl _)
      | (with_reducible exact LeO.none _)
      | (with_reducible refine LeO.ite ?_ ?_)
      | (with_reducible refine LeO.bind ?_ (fun _ => ?_))
      | exact ih0 _ _ _ _ _ _ _ _
      | exact ih1 _ _ _ _ _ _ _ _ _ _
      | exact ih2 _ _ _ _ _ _ _ _ _ _ _
      | exact ih3 _ _ _ _
      | exact ih4 _ _ _ _ _
      | exact ih5 _ _ _ _ _ _
      | exact ih6 _ _ _ _ _ _
      | exact impl_PollCycle.mono _ _ _
      | exact impl_ReserveSlots.mono _ _ _
      | exact impl_TokenRounds.mono _ _ _ _
      | exact laws_b10Nums.mono _ _ _
      | exact laws_b10Sum.mono _ _
      | exact spec_B10Needs.mono _ _
      | exact LeO.none _
      | refine LeO.ite ?_ ?_
      | refine LeO.bind ?_ (fun _ => ?_)
    · intro y0 y1 y2 y3 y4 y5 y6 y7 y8 y9 y10
      unfold laws_FnTurns.j2
      repeat' first
      | (with_reducible exact ih0 _ _ _ _ _ _ _ _)
      | (with_reducible exact ih1 _ _ _ _ _ _ _ _ _ _)
      | (with_reducible exact ih2 _ _ _ _ _ _ _ _ _ _ _)
      | (with_reducible exact ih3 _ _ _ _)
      | (with_reducible exact ih4 _ _ _ _ _)
      | (with_reducible exact ih5 _ _ _ _ _ _)
      | (with_reducible exact ih6 _ _ _ _ _ _)
      | (with_reducible exact impl_PollCycle.mono _ _ _)
      | (with_reducible exact impl_ReserveSlots.mono _ _ _)
      | (with_reducible exact impl_TokenRounds.mono _ _ _ _)
      | (with_reducible exact laws_b10Nums.mono _ _ _)
      | (with_reducible exact laws_b10Sum.mono _ _)
      | (with_reducible exact spec_B10Needs.mono _ _)
      | (with_reducible exact LeO.refl _)
      | (with_reducible exact LeO.none _)
      | (with_reducible refine LeO.ite ?_ ?_)
      | (with_reducible refine LeO.bind ?_ (fun _ => ?_))
      | exact ih0 _ _ _ _ _ _ _ _
      | exact ih1 _ _ _ _ _ _ _ _ _ _
      | exact ih2 _ _ _ _ _ _ _ _ _ _ _
      | exact ih3 _ _ _ _
      | exact ih4 _ _ _ _ _
      | exact ih5 _ _ _ _ _ _
      | exact ih6 _ _ _ _ _ _
      | exact impl_PollCycle.mono _ _ _
      | exact impl_ReserveSlots.mono _ _ _
      | exact impl_TokenRounds.mono _ _ _ _
      | exact laws_b10Nums.mono _ _ _
      | exact laws_b10Sum.mono _ _
      | exact spec_B10Needs.mono _ _
      | exact LeO.none _
      | refine LeO.ite ?_ ?_
      | refine LeO.bind ?_ (fun _ => ?_)
    · intro y0 y1 y2 y3
      unfold laws_FnTurns.j3
      repeat' first
      | (with_reducible exact ih0 _ _ _ _ _ _ _ _)
      | (with_reducible exact ih1 _ _ _ _ _ _ _ _ _ _)
      | (with_reducible exact ih2 _ _ _ _ _ _ _ _ _ _ _)
      | (with_reducible exact ih3 _ _ _ _)
      | (with_reducible exact ih4 _ _ _ _ _)
      | (with_reducible exact ih5 _ _ _ _ _ _)
      | (with_reducible exact ih6 _ _ _ _ _ _)
      | (with_reducible exact impl_PollCycle.mono _ _ _)
      | (with_reducible exact impl_ReserveSlots.mono _ _ _)
      | (with_reducible exact impl_TokenRounds.mono _ _ _ _)
      | (with_reducible exact laws_b10Nums.mono _ _ _)
      | (with_reducible exact laws_b10Sum.mono _ _)
      | (with_reducible exact spec_B10Needs.mono _ _)
      | (with_reducible exact LeO.refl _)
      | (with_reducible exact LeO.none _)
      | (with_reducible refine LeO.ite ?_ ?_)
      | (with_reducible refine LeO.bind ?_ (fun _ => ?_))
      | exact ih0 _ _ _ _ _ _ _ _
      | exact ih1 _ _ _ _ _ _ _ _ _ _
      | exact ih2 _ _ _ _ _ _ _ _ _ _ _
      | exact ih3 _ _ _ _
      | exact ih4 _ _ _ _ _
      | exact ih5 _ _ _ _ _ _
      | exact ih6 _ _ _ _ _ _
      | exact impl_PollCycle.mono _ _ _
      | exact impl_ReserveSlots.mono _ _ _
      | exact impl_TokenRounds.mono _ _ _ _
      | exact laws_b10Nums.mono _ _ _
      | exact laws_b10Sum.mono _ _
      | exact spec_B10Needs.mono _ _
      | exact LeO.none _
      | refine LeO.ite ?_ ?_
      | refine LeO.bind ?_ (fun _ => ?_)
    · intro y0 y1 y2 y3 y4
      unfold laws_FnTurns.l1
      repeat' first
      | (with_reducible exact ih0 _ _ _ _ _ _ _ _)
      | (with_reducible exact ih1 _ _ _ _ _ _ _ _ _ _)
      | (with_reducible exact ih2 _ _ _ _ _ _ _ _ _ _ _)
      | (with_reducible exact ih3 _ _ _ _)
      | (with_reducible exact ih4 _ _ _ _ _)
      | (with_reducible exact ih5 _ _ _ _ _ _)
      | (with_reducible exact ih6 _ _ _ _ _ _)
      | (with_reducible exact impl_PollCycle.mono _ _ _)
      | (with_reducible exact impl_ReserveSlots.mono _ _ _)
      | (with_reducible exact impl_TokenRounds.mono _ _ _ _)
      | (with_reducible exact laws_b10Nums.mono _ _ _)
      | (with_reducible exact laws_b10Sum.mono _ _)
      | (with_reducible exact spec_B10Needs.mono _ _)
      | (with_reducible exact LeO.refl _)
      | (with_reducible exact LeO.none _)
      | (with_reducible refine LeO.ite ?_ ?_)
      | (with_reducible refine LeO.bind ?_ (fun _ => ?_))
      | exact ih0 _ _ _ _ _ _ _ _
      | exact ih1 _ _ _ _ _ _ _ _ _ _
      | exact ih2 _ _ _ _ _ _ _ _ _ _ _
      | exact ih3 _ _ _ _
      | exact ih4 _ _ _ _ _
      | exact ih5 _ _ _ _ _ _
      | exact ih6 _ _ _ _ _ _
      | exact impl_PollCycle.mono _ _ _
      | exact impl_ReserveSlots.mono _ _ _
      | exact impl_TokenRounds.mono _ _ _ _
      | exact laws_b10Nums.mono _ _ _
      | exact laws_b10Sum.mono _ _
      | exact spec_B10Needs.mono _ _
      | exact LeO.none _
      | refine LeO.ite ?_ ?_
      | refine LeO.bind ?_ (fun _ => ?_)
    · intro y0 y1 y2 y3 y4 y5
      unfold laws_FnTurns.j5
      repeat' first
      | (with_reducible exact ih0 _ _ _ _ _ _ _ _)
      | (with_reducible exact ih1 _ _ _ _ _ _ _ _ _ _)
      | (with_reducible exact ih2 _ _ _ _ _ _ _ _ _ _ _)
      | (with_reducible exact ih3 _ _ _ _)
      | (with_reducible exact ih4 _ _ _ _ _)
      | (with_reducible exact ih5 _ _ _ _ _ _)
      | (with_reducible exact ih6 _ _ _ _ _ _)
      | (with_reducible exact impl_PollCycle.mono _ _ _)
      | (with_reducible exact impl_ReserveSlots.mono _ _ _)
      | (with_reducible exact impl_TokenRounds.mono _ _ _ _)
      | (with_reducible exact laws_b10Nums.mono _ _ _)
      | (with_reducible exact laws_b10Sum.mono _ _)
      | (with_reducible exact spec_B10Needs.mono _ _)
      | (with_reducible exact LeO.refl _)
      | (with_reducible exact LeO.none _)
      | (with_reducible refine LeO.ite ?_ ?_)
      | (with_reducible refine LeO.bind ?_ (fun _ => ?_))
      | exact ih0 _ _ _ _ _ _ _ _
      | exact ih1 _ _ _ _ _ _ _ _ _ _
      | exact ih2 _ _ _ _ _ _ _ _ _ _ _
      | exact ih3 _ _ _ _
      | exact ih4 _ _ _ _ _
      | exact ih5 _ _ _ _ _ _
      | exact ih6 _ _ _ _ _ _
      | exact impl_PollCycle.mono _ _ _
      | exact impl_ReserveSlots.mono _ _ _
      | exact impl_TokenRounds.mono _ _ _ _
      | exact laws_b10Nums.mono _ _ _
      | exact laws_b10Sum.mono _ _
      | exact spec_B10Needs.mono _ _
      | exact LeO.none _
      | refine LeO.ite ?_ ?_
      | refine LeO.bind ?_ (fun _ => ?_)
    · intro y0 y1 y2 y3 y4 y5
      unfold laws_FnTurns.l2
      repeat' first
      | (with_reducible exact ih0 _ _ _ _ _ _ _ _)
      | (with_reducible exact ih1 _ _ _ _ _ _ _ _ _ _)
      | (with_reducible exact ih2 _ _ _ _ _ _ _ _ _ _ _)
      | (with_reducible exact ih3 _ _ _ _)
      | (with_reducible exact ih4 _ _ _ _ _)
      | (with_reducible exact ih5 _ _ _ _ _ _)
      | (with_reducible exact ih6 _ _ _ _ _ _)
      | (with_reducible exact impl_PollCycle.mono _ _ _)
      | (with_reducible exact impl_ReserveSlots.mono _ _ _)
      | (with_reducible exact impl_TokenRounds.mono _ _ _ _)
      | (with_reducible exact laws_b10Nums.mono _ _ _)
      | (with_reducible exact laws_b10Sum.mono _ _)
      | (with_reducible exact spec_B10Needs.mono _ _)
      | (with_reducible exact LeO.refl _)
      | (with_reducible exact LeO.none _)
      | (with_reducible refine LeO.ite ?_ ?_)
      | (with_reducible refine LeO.bind ?_ (fun _ => ?_))
      | exact ih0 _ _ _ _ _ _ _ _
      | exact ih1 _ _ _ _ _ _ _ _ _ _
      | exact ih2 _ _ _ _ _ _ _ _ _ _ _
      | exact ih3 _ _ _ _
      | exact ih4 _ _ _ _ _
      | exact ih5 _ _ _ _ _ _
      | exact ih6 _ _ _ _ _ _
      | exact impl_PollCycle.mono _ _ _
      | exact impl_ReserveSlots.mono _ _ _
      | exact impl_TokenRounds.mono _ _ _ _
      | exact laws_b10Nums.mono _ _ _
      | exact laws_b10Sum.mono _ _
      | exact spec_B10Needs.mono _ _
      | exact LeO.none _
      | refine LeO.ite ?_ ?_
      | refine LeO.bind ?_ (fun _ => ?_)
theorem laws_FnTurns.mono : ∀ a0 a1 k, LeO (laws_FnTurns.f k a0 a1) (laws_FnTurns.f (k + 1) a0 a1) := by
  intro a0 a1 k
  obtain ⟨ih0, ih1, ih2, ih3, ih4, ih5, ih6⟩ := laws_FnTurns.mono_l k
  unfold laws_FnTurns.f
  repeat' first
      | (with_reducible exact ih0 _ _ _ _ _ _ _ _)
      | (with_reducible exact ih1 _ _ _ _ _ _ _ _ _ _)
      | (with_reducible exact ih2 _ _ _ _ _ _ _ _ _ _ _)
      | (with_reducible exact ih3 _ _ _ _)
      | (with_reducible exact ih4 _ _ _ _ _)
      | (with_reducible exact ih5 _ _ _ _ _ _)
      | (with_reducible exact ih6 _ _ _ _ _ _)
      | (with_reducible exact impl_PollCycle.mono _ _ _)
      | (with_reducible exact impl_ReserveSlots.mono _ _ _)
      | (with_reducible exact impl_TokenRounds.mono _ _ _ _)
      | (with_reducible exact laws_b10Nums.mono _ _ _)
      | (with_reducible exact laws_b10Sum.mono _ _)
      | (with_reducible exact spec_B10Needs.mono _ _)
      | (with_reducible exact LeO.refl _)
      | (with_reducible exact LeO.none _)
      | (with_reducible refine LeO.ite ?_ ?_)
      | (with_reducible refine LeO.bind ?_ (fun _ => ?_))
      | exact ih0 _ _ _ _ _ _ _ _
      | exact ih1 _ _ _ _ _ _ _ _ _ _
      | exact ih2 _ _ _ _ _ _ _ _ _ _ _
      | exact ih3 _ _ _ _
      | exact ih4 _ _ _ _ _
      | exact ih5 _ _ _ _ _ _
      | exact ih6 _ _ _ _ _ _
      | exact impl_PollCycle.mono _ _ _
      | exact impl_ReserveSlots.mono _ _ _
      | exact impl_TokenRounds.mono _ _ _ _
      | exact laws_b10Nums.mono _ _ _
      | exact laws_b10Sum.mono _ _
      | exact spec_B10Needs.mono _ _
      | exact LeO.none _
      | refine LeO.ite ?_ ?_
      | refine LeO.bind ?_ (fun _ => ?_)
set_option maxHeartbeats 8000000 in
set_option maxRecDepth 100000 in
theorem laws_FnTurns.calls (k : Nat) (A0 : Option Addr) (c0 : Nat) (l0 : List Int) (A1 : Option Addr) (c1 : Nat) (l1 : List Int) (r : Bool) (w : World) (hr0 : Kd.C (Kd.int .u8) w A0 l0.length l0) (hc0 : l0.length ≤ c0) (hr1 : Kd.C (Kd.int .u8) w A1 l1.length l1) (hc1 : l1.length ≤ c1) (h : laws_FnTurns.f k l0 l1 = some r) :
    Calls Try.prog 9 #[.slice A0 l0.length c0, .slice A1 l1.length c1] w fun e w' => e = .returned (.bool r) ∧ Below w.heap.size w w' := by
  have HR0 := Aside0.mk hr0
  have HC0 := Aside0.mk hc0
  clear hr0 hc0
  have HR1 := Aside0.mk hr1
  have HC1 := Aside0.mk hc1
  clear hr1 hc1
  have HB := Aside0.mk (Below.refl w.heap.size w)
  have H : ((laws_b10Long.f l0 l1).bind fun t183 => (if t183 = true then (some true) else ((spec_B10Needs.f k l0).bind fun t184 => ((laws_b10At.f l1 0 4).bind fun t187 => ((laws_b10At.f l1 1 4).bind fun t188 => ((laws_b10At.f l1 2 5).bind fun t189 => ((impl_PollCycle.f k t184 t187).bind fun bt190 => ((impl_TokenRounds.f k t184 (wrap64 (1 + t188)) t187).bind fun bt195 => ((impl_ReserveSlots.f k t184 (wrap64 (1 + t189))).bind fun bt200 => (if bt190.2.2 = true then (if bt195.2.2 = true then (if bt200.2 = true then (if (bt190.1.length : Int) = (t184.length : Int) then (if (bt195.1.length : Int) = (t184.length : Int) then ((laws_b10Sum.f k t184).bind fun t204 => (laws_FnTurns.j0 k t184 t187 (wrap64 (1 + t189)) bt190.1 bt195.1 bt195.2.1 bt200.1 (bt190.2.1 != (wrap64 (t204 + (wrap64 (t187 * (t184.length : Int)))))))) else (laws_FnTurns.j0 k t184 t187 (wrap64 (1 + t189)) bt190.1 bt195.1 bt195.2.1 bt200.1 true)) else (laws_FnTurns.j0 k t184 t187 (wrap64 (1 + t189)) bt190.1 bt195.1 bt195.2.1 bt200.1 true)) else (laws_FnTurns.j0 k t184 t187 (wrap64 (1 + t189)) bt190.1 bt195.1 bt195.2.1 bt200.1 true)) else (laws_FnTurns.j0 k t184 t187 (wrap64 (1 + t189)) bt190.1 bt195.1 bt195.2.1 bt200.1 true)) else (laws_FnTurns.j0 k t184 t187 (wrap64 (1 + t189)) bt190.1 bt195.1 bt195.2.1 bt200.1 true))))))))))) = some r := h
  clear h
  replace H := Option.bind_eq_some_iff.mp H
  obtain ⟨t183, A30, H⟩ := H
  replace H : (if t183 = true then (some true) else ((spec_B10Needs.f k l0).bind fun t184 => ((laws_b10At.f l1 0 4).bind fun t187 => ((laws_b10At.f l1 1 4).bind fun t188 => ((laws_b10At.f l1 2 5).bind fun t189 => ((impl_PollCycle.f k t184 t187).bind fun bt190 => ((impl_TokenRounds.f k t184 (wrap64 (1 + t188)) t187).bind fun bt195 => ((impl_ReserveSlots.f k t184 (wrap64 (1 + t189))).bind fun bt200 => (if bt190.2.2 = true then (if bt195.2.2 = true then (if bt200.2 = true then (if (bt190.1.length : Int) = (t184.length : Int) then (if (bt195.1.length : Int) = (t184.length : Int) then ((laws_b10Sum.f k t184).bind fun t204 => (laws_FnTurns.j0 k t184 t187 (wrap64 (1 + t189)) bt190.1 bt195.1 bt195.2.1 bt200.1 (bt190.2.1 != (wrap64 (t204 + (wrap64 (t187 * (t184.length : Int)))))))) else (laws_FnTurns.j0 k t184 t187 (wrap64 (1 + t189)) bt190.1 bt195.1 bt195.2.1 bt200.1 true)) else (laws_FnTurns.j0 k t184 t187 (wrap64 (1 + t189)) bt190.1 bt195.1 bt195.2.1 bt200.1 true)) else (laws_FnTurns.j0 k t184 t187 (wrap64 (1 + t189)) bt190.1 bt195.1 bt195.2.1 bt200.1 true)) else (laws_FnTurns.j0 k t184 t187 (wrap64 (1 + t189)) bt190.1 bt195.1 bt195.2.1 bt200.1 true)) else (laws_FnTurns.j0 k t184 t187 (wrap64 (1 + t189)) bt190.1 bt195.1 bt195.2.1 bt200.1 true)))))))))) = some r := H
  have A3 := Aside0.mk A30
  clear A30
  by_cases c4 : t183 = true
  · subst c4
    have H1 : (some true) = some r := by rw [if_pos rfl] at H; exact H
    clear H
    have H := H1
    clear H1
    obtain rfl := Option.some.inj H
    go_enter Try.func9, Try.ntmps9
    go_wp2_with (first | (go_at_call 28; (with_reducible refine (laws_b10Long.calls _ _ l0 _ _ l1 true _ ?side1 ?side2 ?side3 ?side4 A3.out).mono ?_); (case side1 => repeat (first | exact HR0.out | (with_reducible refine Kd.C_alloc ?_ _) | (with_reducible refine Kd.C_drewN ?_ _) | (with_reducible refine Kd.C_drew ?_))); (case side2 => exact HC0.out); (case side3 => repeat (first | exact HR1.out | (with_reducible refine Kd.C_alloc ?_ _) | (with_reducible refine Kd.C_drewN ?_ _) | (with_reducible refine Kd.C_drew ?_))); (case side4 => exact HC1.out); rintro e w' ⟨rfl, ⟨nd, rfl⟩⟩; (try first | exact ⟨rfl, _, World.drewN_drewN _ _ _⟩ | exact ⟨rfl, _, Eq.trans (World.drewN_drewN _ _ _) (congrArg (World.drewN _) (Nat.add_assoc _ _ _))⟩)))
    repeat (go_quiet (first | (go_at_call 28; (with_reducible refine (laws_b10Long.calls _ _ l0 _ _ l1 true _ ?side1 ?side2 ?side3 ?side4 A3.out).mono ?_); (case side1 => repeat (first | exact HR0.out | (with_reducible refine Kd.C_alloc ?_ _) | (with_reducible refine Kd.C_drewN ?_ _) | (with_reducible refine Kd.C_drew ?_))); (case side2 => exact HC0.out); (case side3 => repeat (first | exact HR1.out | (with_reducible refine Kd.C_alloc ?_ _) | (with_reducible refine Kd.C_drewN ?_ _) | (with_reducible refine Kd.C_drew ?_))); (case side4 => exact HC1.out); rintro e w' ⟨rfl, ⟨nd, rfl⟩⟩; (try first | exact ⟨rfl, _, World.drewN_drewN _ _ _⟩ | exact ⟨rfl, _, Eq.trans (World.drewN_drewN _ _ _) (congrArg (World.drewN _) (Nat.add_assoc _ _ _))⟩))); try go_wp2_with (first | (go_at_call 28; (with_reducible refine (laws_b10Long.calls _ _ l0 _ _ l1 true _ ?side1 ?side2 ?side3 ?side4 A3.out).mono ?_); (case side1 => repeat (first | exact HR0.out | (with_reducible refine Kd.C_alloc ?_ _) | (with_reducible refine Kd.C_drewN ?_ _) | (with_reducible refine Kd.C_drew ?_))); (case side2 => exact HC0.out); (case side3 => repeat (first | exact HR1.out | (with_reducible refine Kd.C_alloc ?_ _) | (with_reducible refine Kd.C_drewN ?_ _) | (with_reducible refine Kd.C_drew ?_))); (case side4 => exact HC1.out); rintro e w' ⟨rfl, ⟨nd, rfl⟩⟩; (try first | exact ⟨rfl, _, World.drewN_drewN _ _ _⟩ | exact ⟨rfl, _, Eq.trans (World.drewN_drewN _ _ _) (congrArg (World.drewN _) (Nat.add_assoc _ _ _))⟩))))
    go_ret
    exact ⟨by first | rfl | (simp [errW_none, errW_some] <;> rfl) | (simp [*, errW_none, errW_some] <;> rfl), by repeat (first | (with_reducible first | exact HB.out | apply below_alloc | apply pw_below_drewN | apply below_drew1) | exact HB.out)⟩
  · replace c4 := Bool.eq_false_iff.mpr c4
    subst c4
    have H1 : ((spec_B10Needs.f k l0).bind fun t184 => ((laws_b10At.f l1 0 4).bind fun t187 => ((laws_b10At.f l1 1 4).bind fun t188 => ((laws_b10At.f l1 2 5).bind fun t189 => ((impl_PollCycle.f k t184 t187).bind fun bt190 => ((impl_TokenRounds.f k t184 (wrap64 (1 + t188)) t187).bind fun bt195 => ((impl_ReserveSlots.f k t184 (wrap64 (1 + t189))).bind fun bt200 => (if bt190.2.2 = true then (if bt195.2.2 = true then (if bt200.2 = true then (if (bt190.1.length : Int) = (t184.length : Int) then (if (bt195.1.length : Int) = (t184.length : Int) then ((laws_b10Sum.f k t184).bind fun t204 => (laws_FnTurns.j0 k t184 t187 (wrap64 (1 + t189)) bt190.1 bt195.1 bt195.2.1 bt200.1 (bt190.2.1 != (wrap64 (t204 + (wrap64 (t187 * (t184.length : Int)))))))) else (laws_FnTurns.j0 k t184 t187 (wrap64 (1 + t189)) bt190.1 bt195.1 bt195.2.1 bt200.1 true)) else (laws_FnTurns.j0 k t184 t187 (wrap64 (1 + t189)) bt190.1 bt195.1 bt195.2.1 bt200.1 true)) else (laws_FnTurns.j0 k t184 t187 (wrap64 (1 + t189)) bt190.1 bt195.1 bt195.2.1 bt200.1 true)) else (laws_FnTurns.j0 k t184 t187 (wrap64 (1 + t189)) bt190.1 bt195.1 bt195.2.1 bt200.1 true)) else (laws_FnTurns.j0 k t184 t187 (wrap64 (1 + t189)) bt190.1 bt195.1 bt195.2.1 bt200.1 true))))))))) = some r := by rw [if_neg (show ¬ (false = true) by decide)] at H; exact H
    clear H
    have H := H1
    clear H1
    replace H := Option.bind_eq_some_iff.mp H
    obtain ⟨t184, A50, H⟩ := H
    replace H : ((laws_b10At.f l1 0 4).bind fun t187 => ((laws_b10At.f l1 1 4).bind fun t188 => ((laws_b10At.f l1 2 5).bind fun t189 => ((impl_PollCycle.f k t184 t187).bind fun bt190 => ((impl_TokenRounds.f k t184 (wrap64 (1 + t188)) t187).bind fun bt195 => ((impl_ReserveSlots.f k t184 (wrap64 (1 + t189))).bind fun bt200 => (if bt190.2.2 = true then (if bt195.2.2 = true then (if bt200.2 = true then (if (bt190.1.length : Int) = (t184.length : Int) then (if (bt195.1.length : Int) = (t184.length : Int) then ((laws_b10Sum.f k t184).bind fun t204 => (laws_FnTurns.j0 k t184 t187 (wrap64 (1 + t189)) bt190.1 bt195.1 bt195.2.1 bt200.1 (bt190.2.1 != (wrap64 (t204 + (wrap64 (t187 * (t184.length : Int)))))))) else (laws_FnTurns.j0 k t184 t187 (wrap64 (1 + t189)) bt190.1 bt195.1 bt195.2.1 bt200.1 true)) else (laws_FnTurns.j0 k t184 t187 (wrap64 (1 + t189)) bt190.1 bt195.1 bt195.2.1 bt200.1 true)) else (laws_FnTurns.j0 k t184 t187 (wrap64 (1 + t189)) bt190.1 bt195.1 bt195.2.1 bt200.1 true)) else (laws_FnTurns.j0 k t184 t187 (wrap64 (1 + t189)) bt190.1 bt195.1 bt195.2.1 bt200.1 true)) else (laws_FnTurns.j0 k t184 t187 (wrap64 (1 + t189)) bt190.1 bt195.1 bt195.2.1 bt200.1 true)))))))) = some r := H
    have A5 := Aside0.mk A50
    clear A50
    replace H := Option.bind_eq_some_iff.mp H
    obtain ⟨t187, A60, H⟩ := H
    replace H : ((laws_b10At.f l1 1 4).bind fun t188 => ((laws_b10At.f l1 2 5).bind fun t189 => ((impl_PollCycle.f k t184 t187).bind fun bt190 => ((impl_TokenRounds.f k t184 (wrap64 (1 + t188)) t187).bind fun bt195 => ((impl_ReserveSlots.f k t184 (wrap64 (1 + t189))).bind fun bt200 => (if bt190.2.2 = true then (if bt195.2.2 = true then (if bt200.2 = true then (if (bt190.1.length : Int) = (t184.length : Int) then (if (bt195.1.length : Int) = (t184.length : Int) then ((laws_b10Sum.f k t184).bind fun t204 => (laws_FnTurns.j0 k t184 t187 (wrap64 (1 + t189)) bt190.1 bt195.1 bt195.2.1 bt200.1 (bt190.2.1 != (wrap64 (t204 + (wrap64 (t187 * (t184.length : Int)))))))) else (laws_FnTurns.j0 k t184 t187 (wrap64 (1 + t189)) bt190.1 bt195.1 bt195.2.1 bt200.1 true)) else (laws_FnTurns.j0 k t184 t187 (wrap64 (1 + t189)) bt190.1 bt195.1 bt195.2.1 bt200.1 true)) else (laws_FnTurns.j0 k t184 t187 (wrap64 (1 + t189)) bt190.1 bt195.1 bt195.2.1 bt200.1 true)) else (laws_FnTurns.j0 k t184 t187 (wrap64 (1 + t189)) bt190.1 bt195.1 bt195.2.1 bt200.1 true)) else (laws_FnTurns.j0 k t184 t187 (wrap64 (1 + t189)) bt190.1 bt195.1 bt195.2.1 bt200.1 true))))))) = some r := H
    have A6 := Aside0.mk A60
    clear A60
    replace H := Option.bind_eq_some_iff.mp H
    obtain ⟨t188, A70, H⟩ := H
    replace H : ((laws_b10At.f l1 2 5).bind fun t189 => ((impl_PollCycle.f k t184 t187).bind fun bt190 => ((impl_TokenRounds.f k t184 (wrap64 (1 + t188)) t187).bind fun bt195 => ((impl_ReserveSlots.f k t184 (wrap64 (1 + t189))).bind fun bt200 => (if bt190.2.2 = true then (if bt195.2.2 = true then (if bt200.2 = true then (if (bt190.1.length : Int) = (t184.length : Int) then (if (bt195.1.length : Int) = (t184.length : Int) then ((laws_b10Sum.f k t184).bind fun t204 => (laws_FnTurns.j0 k t184 t187 (wrap64 (1 + t189)) bt190.1 bt195.1 bt195.2.1 bt200.1 (bt190.2.1 != (wrap64 (t204 + (wrap64 (t187 * (t184.length : Int)))))))) else (laws_FnTurns.j0 k t184 t187 (wrap64 (1 + t189)) bt190.1 bt195.1 bt195.2.1 bt200.1 true)) else (laws_FnTurns.j0 k t184 t187 (wrap64 (1 + t189)) bt190.1 bt195.1 bt195.2.1 bt200.1 true)) else (laws_FnTurns.j0 k t184 t187 (wrap64 (1 + t189)) bt190.1 bt195.1 bt195.2.1 bt200.1 true)) else (laws_FnTurns.j0 k t184 t187 (wrap64 (1 + t189)) bt190.1 bt195.1 bt195.2.1 bt200.1 true)) else (laws_FnTurns.j0 k t184 t187 (wrap64 (1 + t189)) bt190.1 bt195.1 bt195.2.1 bt200.1 true)))))) = some r := H
    have A7 := Aside0.mk A70
    clear A70
    replace H := Option.bind_eq_some_iff.mp H
    obtain ⟨t189, A80, H⟩ := H
    replace H : ((impl_PollCycle.f k t184 t187).bind fun bt190 => ((impl_TokenRounds.f k t184 (wrap64 (1 + t188)) t187).bind fun bt195 => ((impl_ReserveSlots.f k t184 (wrap64 (1 + t189))).bind fun bt200 => (if bt190.2.2 = true then (if bt195.2.2 = true then (if bt200.2 = true then (if (bt190.1.length : Int) = (t184.length : Int) then (if (bt195.1.length : Int) = (t184.length : Int) then ((laws_b10Sum.f k t184).bind fun t204 => (laws_FnTurns.j0 k t184 t187 (wrap64 (1 + t189)) bt190.1 bt195.1 bt195.2.1 bt200.1 (bt190.2.1 != (wrap64 (t204 + (wrap64 (t187 * (t184.length : Int)))))))) else (laws_FnTurns.j0 k t184 t187 (wrap64 (1 + t189)) bt190.1 bt195.1 bt195.2.1 bt200.1 true)) else (laws_FnTurns.j0 k t184 t187 (wrap64 (1 + t189)) bt190.1 bt195.1 bt195.2.1 bt200.1 true)) else (laws_FnTurns.j0 k t184 t187 (wrap64 (1 + t189)) bt190.1 bt195.1 bt195.2.1 bt200.1 true)) else (laws_FnTurns.j0 k t184 t187 (wrap64 (1 + t189)) bt190.1 bt195.1 bt195.2.1 bt200.1 true)) else (laws_FnTurns.j0 k t184 t187 (wrap64 (1 + t189)) bt190.1 bt195.1 bt195.2.1 bt200.1 true))))) = some r := H
    have A8 := Aside0.mk A80
    clear A80
    replace H := Option.bind_eq_some_iff.mp H
    obtain ⟨⟨t190, t191, t192⟩, A90, H⟩ := H
    replace H : ((impl_TokenRounds.f k t184 (wrap64 (1 + t188)) t187).bind fun bt195 => ((impl_ReserveSlots.f k t184 (wrap64 (1 + t189))).bind fun bt200 => (if t192 = true then (if bt195.2.2 = true then (if bt200.2 = true then (if (t190.length : Int) = (t184.length : Int) then (if (bt195.1.length : Int) = (t184.length : Int) then ((laws_b10Sum.f k t184).bind fun t204 => (laws_FnTurns.j0 k t184 t187 (wrap64 (1 + t189)) t190 bt195.1 bt195.2.1 bt200.1 (t191 != (wrap64 (t204 + (wrap64 (t187 * (t184.length : Int)))))))) else (laws_FnTurns.j0 k t184 t187 (wrap64 (1 + t189)) t190 bt195.1 bt195.2.1 bt200.1 true)) else (laws_FnTurns.j0 k t184 t187 (wrap64 (1 + t189)) t190 bt195.1 bt195.2.1 bt200.1 true)) else (laws_FnTurns.j0 k t184 t187 (wrap64 (1 + t189)) t190 bt195.1 bt195.2.1 bt200.1 true)) else (laws_FnTurns.j0 k t184 t187 (wrap64 (1 + t189)) t190 bt195.1 bt195.2.1 bt200.1 true)) else (laws_FnTurns.j0 k t184 t187 (wrap64 (1 + t189)) t190 bt195.1 bt195.2.1 bt200.1 true)))) = some r := H
    have A9 := Aside0.mk A90
    clear A90
    replace H := Option.bind_eq_some_iff.mp H
    obtain ⟨⟨t195, t196, t197⟩, A100, H⟩ := H
    replace H : ((impl_ReserveSlots.f k t184 (wrap64 (1 + t189))).bind fun bt200 => (if t192 = true then (if t197 = true then (if bt200.2 = true then (if (t190.length : Int) = (t184.length : Int) then (if (t195.length : Int) = (t184.length : Int) then ((laws_b10Sum.f k t184).bind fun t204 => (laws_FnTurns.j0 k t184 t187 (wrap64 (1 + t189)) t190 t195 t196 bt200.1 (t191 != (wrap64 (t204 + (wrap64 (t187 * (t184.length : Int)))))))) else (laws_FnTurns.j0 k t184 t187 (wrap64 (1 + t189)) t190 t195 t196 bt200.1 true)) else (laws_FnTurns.j0 k t184 t187 (wrap64 (1 + t189)) t190 t195 t196 bt200.1 true)) else (laws_FnTurns.j0 k t184 t187 (wrap64 (1 + t189)) t190 t195 t196 bt200.1 true)) else (laws_FnTurns.j0 k t184 t187 (wrap64 (1 + t189)) t190 t195 t196 bt200.1 true)) else (laws_FnTurns.j0 k t184 t187 (wrap64 (1 + t189)) t190 t195 t196 bt200.1 true))) = some r := H
    have A10 := Aside0.mk A100
    clear A100
    replace H := Option.bind_eq_some_iff.mp H
    obtain ⟨⟨t200, t201⟩, A110, H⟩ := H
    replace H : (if t192 = true then (if t197 = true then (if t201 = true then (if (t190.length : Int) = (t184.length : Int) then (if (t195.length : Int) = (t184.length : Int) then ((laws_b10Sum.f k t184).bind fun t204 => (laws_FnTurns.j0 k t184 t187 (wrap64 (1 + t189)) t190 t195 t196 t200 (t191 != (wrap64 (t204 + (wrap64 (t187 * (t184.length : Int)))))))) else (laws_FnTurns.j0 k t184 t187 (wrap64 (1 + t189)) t190 t195 t196 t200 true)) else (laws_FnTurns.j0 k t184 t187 (wrap64 (1 + t189)) t190 t195 t196 t200 true)) else (laws_FnTurns.j0 k t184 t187 (wrap64 (1 + t189)) t190 t195 t196 t200 true)) else (laws_FnTurns.j0 k t184 t187 (wrap64 (1 + t189)) t190 t195 t196 t200 true)) else (laws_FnTurns.j0 k t184 t187 (wrap64 (1 + t189)) t190 t195 t196 t200 true)) = some r := H
    have A11 := Aside0.mk A110
    clear A110
    have HC12 := Aside0.mk H
    clear H
    go_enter Try.func9, Try.ntmps9
    go_upto_region 10 with (first | (go_at_call 28; (with_reducible refine (laws_b10Long.calls _ _ l0 _ _ l1 false _ ?side1 ?side2 ?side3 ?side4 A3.out).mono ?_); (case side1 => repeat (first | exact HR0.out | (with_reducible refine Kd.C_alloc ?_ _) | (with_reducible refine Kd.C_drewN ?_ _) | (with_reducible refine Kd.C_drew ?_))); (case side2 => exact HC0.out); (case side3 => repeat (first | exact HR1.out | (with_reducible refine Kd.C_alloc ?_ _) | (with_reducible refine Kd.C_drewN ?_ _) | (with_reducible refine Kd.C_drew ?_))); (case side4 => exact HC1.out); rintro e w' ⟨rfl, ⟨nd, rfl⟩⟩; (try first | exact ⟨rfl, _, World.drewN_drewN _ _ _⟩ | exact ⟨rfl, _, Eq.trans (World.drewN_drewN _ _ _) (congrArg (World.drewN _) (Nat.add_assoc _ _ _))⟩)) | (go_at_call 32; (with_reducible refine (spec_B10Needs.calls k _ _ l0 t184 _ ?side1 ?side2 A5.out).mono ?_); (case side1 => repeat (first | exact HR0.out | (with_reducible refine Kd.C_alloc ?_ _) | (with_reducible refine Kd.C_drewN ?_ _) | (with_reducible refine Kd.C_drew ?_))); (case side2 => exact HC0.out); rintro e w13 ⟨v185, rfl, ho0, hb⟩; have n0_ := Aside0.mk (Kd.R_lower ho0 (below_size (by repeat (first | (with_reducible first | exact HB.out | apply below_alloc | apply pw_below_drewN | apply below_drew1) | exact HB.out)))); have n1_ := Aside0.mk (below_step (by repeat (first | (with_reducible first | exact HB.out | apply below_alloc | apply pw_below_drewN | apply below_drew1) | exact HB.out)) hb); clear HB; have HO186 := n0_; have HB := n1_; clear n0_ n1_; (try clear hb); (try clear hb2); (try clear hk); (try clear hi); (try clear ho0)) | (go_at_call 33; (with_reducible refine (laws_b10At.calls _ _ l1 0 4 t187 _ ?side1 ?side2 A6.out).mono ?_); (case side1 => repeat (first | exact (Kd.C_below HR1.out HB.out) | (with_reducible refine Kd.C_alloc ?_ _) | (with_reducible refine Kd.C_drewN ?_ _) | (with_reducible refine Kd.C_drew ?_))); (case side2 => exact HC1.out); rintro e w' ⟨rfl, ⟨nd, rfl⟩⟩; (try first | exact ⟨rfl, _, World.drewN_drewN _ _ _⟩ | exact ⟨rfl, _, Eq.trans (World.drewN_drewN _ _ _) (congrArg (World.drewN _) (Nat.add_assoc _ _ _))⟩)) | (go_at_call 33; (with_reducible refine (laws_b10At.calls _ _ l1 1 4 t188 _ ?side1 ?side2 A7.out).mono ?_); (case side1 => repeat (first | exact (Kd.C_below HR1.out (by repeat (first | (with_reducible first | exact HB.out | apply below_alloc | apply pw_below_drewN | apply below_drew1) | exact HB.out))) | (with_reducible refine Kd.C_alloc ?_ _) | (with_reducible refine Kd.C_drewN ?_ _) | (with_reducible refine Kd.C_drew ?_))); (case side2 => exact HC1.out); rintro e w' ⟨rfl, ⟨nd, rfl⟩⟩; (try first | exact ⟨rfl, _, World.drewN_drewN _ _ _⟩ | exact ⟨rfl, _, Eq.trans (World.drewN_drewN _ _ _) (congrArg (World.drewN _) (Nat.add_assoc _ _ _))⟩)) | (go_at_call 33; (with_reducible refine (laws_b10At.calls _ _ l1 2 5 t189 _ ?side1 ?side2 A8.out).mono ?_); (case side1 => repeat (first | exact (Kd.C_below HR1.out (by repeat (first | (with_reducible first | exact HB.out | apply below_alloc | apply pw_below_drewN | apply below_drew1) | exact HB.out))) | (with_reducible refine Kd.C_alloc ?_ _) | (with_reducible refine Kd.C_drewN ?_ _) | (with_reducible refine Kd.C_drew ?_))); (case side2 => exact HC1.out); rintro e w' ⟨rfl, ⟨nd, rfl⟩⟩; (try first | exact ⟨rfl, _, World.drewN_drewN _ _ _⟩ | exact ⟨rfl, _, Eq.trans (World.drewN_drewN _ _ _) (congrArg (World.drewN _) (Nat.add_assoc _ _ _))⟩); obtain ⟨Ao14, co14, eo14⟩ := Kd.R_slice HO186.out; subst eo14) | (go_at_call 34; (with_reducible refine (impl_PollCycle.calls k _ _ t184 t187 t190 t191 t192 _ ?side1 ?side2 A9.out).mono ?_); (case side1 => repeat (first | exact (Kd.R_reads' HO186.out).2.2 | (with_reducible refine Kd.C_alloc ?_ _) | (with_reducible refine Kd.C_drewN ?_ _) | (with_reducible refine Kd.C_drew ?_))); (case side2 => exact (Kd.R_reads' HO186.out).2.1); rintro e w15 ⟨v193, rfl, ho0, hb⟩; have n0_ := Aside0.mk (Kd.R_elder' (by (with_reducible repeat (first | apply Kd.R_alloc | apply Kd.R_drewN | apply Kd.R_drew)); exact HO186.out) (Kd.R_base ho0) hb); have n1_ := Aside0.mk (Kd.R_lower (Kd.R_new' ho0 (Kd.R_lt (by (with_reducible repeat (first | apply Kd.R_alloc | apply Kd.R_drewN | apply Kd.R_drew)); exact HO186.out))) (below_size (by repeat (first | (with_reducible first | exact HB.out | apply below_alloc | apply pw_below_drewN | apply below_drew1) | exact HB.out)))); have n2_ := Aside0.mk (below_step (by repeat (first | (with_reducible first | exact HB.out | apply below_alloc | apply pw_below_drewN | apply below_drew1) | exact HB.out)) hb); clear HO186; clear HB; have HO186 := n0_; have HO194 := n1_; have HB := n2_; clear n0_ n1_ n2_; (try clear hb); (try clear hb2); (try clear hk); (try clear hi); (try clear ho0)) | (go_at_call 22; (with_reducible refine (impl_TokenRounds.calls k _ _ t184 (wrap64 (1 + t188)) t187 t195 t196 t197 _ ?side1 ?side2 A10.out).mono ?_); (case side1 => repeat (first | exact (Kd.R_reads' HO186.out).2.2 | (with_reducible refine Kd.C_alloc ?_ _) | (with_reducible refine Kd.C_drewN ?_ _) | (with_reducible refine Kd.C_drew ?_))); (case side2 => exact (Kd.R_reads' HO186.out).2.1); rintro e w16 ⟨v198, rfl, ho0, hb⟩; have n0_ := Aside0.mk (Kd.R_elder' (by (with_reducible repeat (first | apply Kd.R_alloc | apply Kd.R_drewN | apply Kd.R_drew)); exact HO186.out) (Kd.R_base ho0) hb); have n1_ := Aside0.mk (Kd.R_elder' (by (with_reducible repeat (first | apply Kd.R_alloc | apply Kd.R_drewN | apply Kd.R_drew)); exact HO194.out) (Kd.R_base ho0) hb); have n2_ := Aside0.mk (Kd.R_lower (Kd.R_new' (Kd.R_new' ho0 (Kd.R_lt (by (with_reducible repeat (first | apply Kd.R_alloc | apply Kd.R_drewN | apply Kd.R_drew)); exact HO186.out))) (Kd.R_lt (by (with_reducible repeat (first | apply Kd.R_alloc | apply Kd.R_drewN | apply Kd.R_drew)); exact HO194.out))) (below_size (by repeat (first | (with_reducible first | exact HB.out | apply below_alloc | apply pw_below_drewN | apply below_drew1) | exact HB.out)))); have n3_ := Aside0.mk (below_step (by repeat (first | (with_reducible first | exact HB.out | apply below_alloc | apply pw_below_drewN | apply below_drew1) | exact HB.out)) hb); clear HO186; clear HO194; clear HB; have HO186 := n0_; have HO194 := n1_; have HO199 := n2_; have HB := n3_; clear n0_ n1_ n2_ n3_; (try clear hb); (try clear hb2); (try clear hk); (try clear hi); (try clear ho0)) | (go_at_call 35; (with_reducible refine (impl_ReserveSlots.calls k _ _ t184 (wrap64 (1 + t189)) t200 t201 _ ?side1 ?side2 A11.out).mono ?_); (case side1 => repeat (first | exact (Kd.R_reads' HO186.out).2.2 | (with_reducible refine Kd.C_alloc ?_ _) | (with_reducible refine Kd.C_drewN ?_ _) | (with_reducible refine Kd.C_drew ?_))); (case side2 => exact (Kd.R_reads' HO186.out).2.1); rintro e w17 ⟨v202, rfl, ho0, hb⟩; have n0_ := Aside0.mk (Kd.R_below (by (with_reducible repeat (first | apply Kd.R_alloc | apply Kd.R_drewN | apply Kd.R_drew)); exact HO186.out) hb); have n1_ := Aside0.mk (Kd.R_below (by (with_reducible repeat (first | apply Kd.R_alloc | apply Kd.R_drewN | apply Kd.R_drew)); exact HO194.out) hb); have n2_ := Aside0.mk (Kd.R_below (by (with_reducible repeat (first | apply Kd.R_alloc | apply Kd.R_drewN | apply Kd.R_drew)); exact HO199.out) hb); have n3_ := Aside0.mk (Kd.S_lower (Kd.S_new' (Kd.S_new' (Kd.S_new' ho0 (Kd.R_lt (by (with_reducible repeat (first | apply Kd.R_alloc | apply Kd.R_drewN | apply Kd.R_drew)); exact HO186.out))) (Kd.R_lt (by (with_reducible repeat (first | apply Kd.R_alloc | apply Kd.R_drewN | apply Kd.R_drew)); exact HO194.out))) (Kd.R_lt (by (with_reducible repeat (first | apply Kd.R_alloc | apply Kd.R_drewN | apply Kd.R_drew)); exact HO199.out))) (below_size (by repeat (first | (with_reducible first | exact HB.out | apply below_alloc | apply pw_below_drewN | apply below_drew1) | exact HB.out)))); have n4_ := Aside0.mk (below_step (by repeat (first | (with_reducible first | exact HB.out | apply below_alloc | apply pw_below_drewN | apply below_drew1) | exact HB.out)) hb); clear HO186; clear HO194; clear HO199; clear HB; have HO186 := n0_; have HO194 := n1_; have HO199 := n2_; have HO203 := n3_; have HB := n4_; clear n0_ n1_ n2_ n3_ n4_; (try clear hb); (try clear hb2); (try clear hk); (try clear hi); (try clear ho0)))
    repeat (go_quiet (first | (go_at_call 28; (with_reducible refine (laws_b10Long.calls _ _ l0 _ _ l1 false _ ?side1 ?side2 ?side3 ?side4 A3.out).mono ?_); (case side1 => repeat (first | exact HR0.out | (with_reducible refine Kd.C_alloc ?_ _) | (with_reducible refine Kd.C_drewN ?_ _) | (with_reducible refine Kd.C_drew ?_))); (case side2 => exact HC0.out); (case side3 => repeat (first | exact HR1.out | (with_reducible refine Kd.C_alloc ?_ _) | (with_reducible refine Kd.C_drewN ?_ _) | (with_reducible refine Kd.C_drew ?_))); (case side4 => exact HC1.out); rintro e w' ⟨rfl, ⟨nd, rfl⟩⟩; (try first | exact ⟨rfl, _, World.drewN_drewN _ _ _⟩ | exact ⟨rfl, _, Eq.trans (World.drewN_drewN _ _ _) (congrArg (World.drewN _) (Nat.add_assoc _ _ _))⟩)) | (go_at_call 32; (with_reducible refine (spec_B10Needs.calls k _ _ l0 t184 _ ?side1 ?side2 A5.out).mono ?_); (case side1 => repeat (first | exact HR0.out | (with_reducible refine Kd.C_alloc ?_ _) | (with_reducible refine Kd.C_drewN ?_ _) | (with_reducible refine Kd.C_drew ?_))); (case side2 => exact HC0.out); rintro e w13 ⟨v185, rfl, ho0, hb⟩; have n0_ := Aside0.mk (Kd.R_lower ho0 (below_size (by repeat (first | (with_reducible first | exact HB.out | apply below_alloc | apply pw_below_drewN | apply below_drew1) | exact HB.out)))); have n1_ := Aside0.mk (below_step (by repeat (first | (with_reducible first | exact HB.out | apply below_alloc | apply pw_below_drewN | apply below_drew1) | exact HB.out)) hb); clear HB; have HO186 := n0_; have HB := n1_; clear n0_ n1_; (try clear hb); (try clear hb2); (try clear hk); (try clear hi); (try clear ho0)) | (go_at_call 33; (with_reducible refine (laws_b10At.calls _ _ l1 0 4 t187 _ ?side1 ?side2 A6.out).mono ?_); (case side1 => repeat (first | exact (Kd.C_below HR1.out HB.out) | (with_reducible refine Kd.C_alloc ?_ _) | (with_reducible refine Kd.C_drewN ?_ _) | (with_reducible refine Kd.C_drew ?_))); (case side2 => exact HC1.out); rintro e w' ⟨rfl, ⟨nd, rfl⟩⟩; (try first | exact ⟨rfl, _, World.drewN_drewN _ _ _⟩ | exact ⟨rfl, _, Eq.trans (World.drewN_drewN _ _ _) (congrArg (World.drewN _) (Nat.add_assoc _ _ _))⟩)) | (go_at_call 33; (with_reducible refine (laws_b10At.calls _ _ l1 1 4 t188 _ ?side1 ?side2 A7.out).mono ?_); (case side1 => repeat (first | exact (Kd.C_below HR1.out (by repeat (first | (with_reducible first | exact HB.out | apply below_alloc | apply pw_below_drewN | apply below_drew1) | exact HB.out))) | (with_reducible refine Kd.C_alloc ?_ _) | (with_reducible refine Kd.C_drewN ?_ _) | (with_reducible refine Kd.C_drew ?_))); (case side2 => exact HC1.out); rintro e w' ⟨rfl, ⟨nd, rfl⟩⟩; (try first | exact ⟨rfl, _, World.drewN_drewN _ _ _⟩ | exact ⟨rfl, _, Eq.trans (World.drewN_drewN _ _ _) (congrArg (World.drewN _) (Nat.add_assoc _ _ _))⟩)) | (go_at_call 33; (with_reducible refine (laws_b10At.calls _ _ l1 2 5 t189 _ ?side1 ?side2 A8.out).mono ?_); (case side1 => repeat (first | exact (Kd.C_below HR1.out (by repeat (first | (with_reducible first | exact HB.out | apply below_alloc | apply pw_below_drewN | apply below_drew1) | exact HB.out))) | (with_reducible refine Kd.C_alloc ?_ _) | (with_reducible refine Kd.C_drewN ?_ _) | (with_reducible refine Kd.C_drew ?_))); (case side2 => exact HC1.out); rintro e w' ⟨rfl, ⟨nd, rfl⟩⟩; (try first | exact ⟨rfl, _, World.drewN_drewN _ _ _⟩ | exact ⟨rfl, _, Eq.trans (World.drewN_drewN _ _ _) (congrArg (World.drewN _) (Nat.add_assoc _ _ _))⟩); obtain ⟨Ao14, co14, eo14⟩ := Kd.R_slice HO186.out; subst eo14) | (go_at_call 34; (with_reducible refine (impl_PollCycle.calls k _ _ t184 t187 t190 t191 t192 _ ?side1 ?side2 A9.out).mono ?_); (case side1 => repeat (first | exact (Kd.R_reads' HO186.out).2.2 | (with_reducible refine Kd.C_alloc ?_ _) | (with_reducible refine Kd.C_drewN ?_ _) | (with_reducible refine Kd.C_drew ?_))); (case side2 => exact (Kd.R_reads' HO186.out).2.1); rintro e w15 ⟨v193, rfl, ho0, hb⟩; have n0_ := Aside0.mk (Kd.R_elder' (by (with_reducible repeat (first | apply Kd.R_alloc | apply Kd.R_drewN | apply Kd.R_drew)); exact HO186.out) (Kd.R_base ho0) hb); have n1_ := Aside0.mk (Kd.R_lower (Kd.R_new' ho0 (Kd.R_lt (by (with_reducible repeat (first | apply Kd.R_alloc | apply Kd.R_drewN | apply Kd.R_drew)); exact HO186.out))) (below_size (by repeat (first | (with_reducible first | exact HB.out | apply below_alloc | apply pw_below_drewN | apply below_drew1) | exact HB.out)))); have n2_ := Aside0.mk (below_step (by repeat (first | (with_reducible first | exact HB.out | apply below_alloc | apply pw_below_drewN | apply below_drew1) | exact HB.out)) hb); clear HO186; clear HB; have HO186 := n0_; have HO194 := n1_; have HB := n2_; clear n0_ n1_ n2_; (try clear hb); (try clear hb2); (try clear hk); (try clear hi); (try clear ho0)) | (go_at_call 22; (with_reducible refine (impl_TokenRounds.calls k _ _ t184 (wrap64 (1 + t188)) t187 t195 t196 t197 _ ?side1 ?side2 A10.out).mono ?_); (case side1 => repeat (first | exact (Kd.R_reads' HO186.out).2.2 | (with_reducible refine Kd.C_alloc ?_ _) | (with_reducible refine Kd.C_drewN ?_ _) | (with_reducible refine Kd.C_drew ?_))); (case side2 => exact (Kd.R_reads' HO186.out).2.1); rintro e w16 ⟨v198, rfl, ho0, hb⟩; have n0_ := Aside0.mk (Kd.R_elder' (by (with_reducible repeat (first | apply Kd.R_alloc | apply Kd.R_drewN | apply Kd.R_drew)); exact HO186.out) (Kd.R_base ho0) hb); have n1_ := Aside0.mk (Kd.R_elder' (by (with_reducible repeat (first | apply Kd.R_alloc | apply Kd.R_drewN | apply Kd.R_drew)); exact HO194.out) (Kd.R_base ho0) hb); have n2_ := Aside0.mk (Kd.R_lower (Kd.R_new' (Kd.R_new' ho0 (Kd.R_lt (by (with_reducible repeat (first | apply Kd.R_alloc | apply Kd.R_drewN | apply Kd.R_drew)); exact HO186.out))) (Kd.R_lt (by (with_reducible repeat (first | apply Kd.R_alloc | apply Kd.R_drewN | apply Kd.R_drew)); exact HO194.out))) (below_size (by repeat (first | (with_reducible first | exact HB.out | apply below_alloc | apply pw_below_drewN | apply below_drew1) | exact HB.out)))); have n3_ := Aside0.mk (below_step (by repeat (first | (with_reducible first | exact HB.out | apply below_alloc | apply pw_below_drewN | apply below_drew1) | exact HB.out)) hb); clear HO186; clear HO194; clear HB; have HO186 := n0_; have HO194 := n1_; have HO199 := n2_; have HB := n3_; clear n0_ n1_ n2_ n3_; (try clear hb); (try clear hb2); (try clear hk); (try clear hi); (try clear ho0)) | (go_at_call 35; (with_reducible refine (impl_ReserveSlots.calls k _ _ t184 (wrap64 (1 + t189)) t200 t201 _ ?side1 ?side2 A11.out).mono ?_); (case side1 => repeat (first | exact (Kd.R_reads' HO186.out).2.2 | (with_reducible refine Kd.C_alloc ?_ _) | (with_reducible refine Kd.C_drewN ?_ _) | (with_reducible refine Kd.C_drew ?_))); (case side2 => exact (Kd.R_reads' HO186.out).2.1); rintro e w17 ⟨v202, rfl, ho0, hb⟩; have n0_ := Aside0.mk (Kd.R_below (by (with_reducible repeat (first | apply Kd.R_alloc | apply Kd.R_drewN | apply Kd.R_drew)); exact HO186.out) hb); have n1_ := Aside0.mk (Kd.R_below (by (with_reducible repeat (first | apply Kd.R_alloc | apply Kd.R_drewN | apply Kd.R_drew)); exact HO194.out) hb); have n2_ := Aside0.mk (Kd.R_below (by (with_reducible repeat (first | apply Kd.R_alloc | apply Kd.R_drewN | apply Kd.R_drew)); exact HO199.out) hb); have n3_ := Aside0.mk (Kd.S_lower (Kd.S_new' (Kd.S_new' (Kd.S_new' ho0 (Kd.R_lt (by (with_reducible repeat (first | apply Kd.R_alloc | apply Kd.R_drewN | apply Kd.R_drew)); exact HO186.out))) (Kd.R_lt (by (with_reducible repeat (first | apply Kd.R_alloc | apply Kd.R_drewN | apply Kd.R_drew)); exact HO194.out))) (Kd.R_lt (by (with_reducible repeat (first | apply Kd.R_alloc | apply Kd.R_drewN | apply Kd.R_drew)); exact HO199.out))) (below_size (by repeat (first | (with_reducible first | exact HB.out | apply below_alloc | apply pw_below_drewN | apply below_drew1) | exact HB.out)))); have n4_ := Aside0.mk (below_step (by repeat (first | (with_reducible first | exact HB.out | apply below_alloc | apply pw_below_drewN | apply below_drew1) | exact HB.out)) hb); clear HO186; clear HO194; clear HO199; clear HB; have HO186 := n0_; have HO194 := n1_; have HO199 := n2_; have HO203 := n3_; have HB := n4_; clear n0_ n1_ n2_ n3_ n4_; (try clear hb); (try clear hb2); (try clear hk); (try clear hi); (try clear ho0))); go_upto_region 10 with (first | (go_at_call 28; (with_reducible refine (laws_b10Long.calls _ _ l0 _ _ l1 false _ ?side1 ?side2 ?side3 ?side4 A3.out).mono ?_); (case side1 => repeat (first | exact HR0.out | (with_reducible refine Kd.C_alloc ?_ _) | (with_reducible refine Kd.C_drewN ?_ _) | (with_reducible refine Kd.C_drew ?_))); (case side2 => exact HC0.out); (case side3 => repeat (first | exact HR1.out | (with_reducible refine Kd.C_alloc ?_ _) | (with_reducible refine Kd.C_drewN ?_ _) | (with_reducible refine Kd.C_drew ?_))); (case side4 => exact HC1.out); rintro e w' ⟨rfl, ⟨nd, rfl⟩⟩; (try first | exact ⟨rfl, _, World.drewN_drewN _ _ _⟩ | exact ⟨rfl, _, Eq.trans (World.drewN_drewN _ _ _) (congrArg (World.drewN _) (Nat.add_assoc _ _ _))⟩)) | (go_at_call 32; (with_reducible refine (spec_B10Needs.calls k _ _ l0 t184 _ ?side1 ?side2 A5.out).mono ?_); (case side1 => repeat (first | exact HR0.out | (with_reducible refine Kd.C_alloc ?_ _) | (with_reducible refine Kd.C_drewN ?_ _) | (with_reducible refine Kd.C_drew ?_))); (case side2 => exact HC0.out); rintro e w13 ⟨v185, rfl, ho0, hb⟩; have n0_ := Aside0.mk (Kd.R_lower ho0 (below_size (by repeat (first | (with_reducible first | exact HB.out | apply below_alloc | apply pw_below_drewN | apply below_drew1) | exact HB.out)))); have n1_ := Aside0.mk (below_step (by repeat (first | (with_reducible first | exact HB.out | apply below_alloc | apply pw_below_drewN | apply below_drew1) | exact HB.out)) hb); clear HB; have HO186 := n0_; have HB := n1_; clear n0_ n1_; (try clear hb); (try clear hb2); (try clear hk); (try clear hi); (try clear ho0)) | (go_at_call 33; (with_reducible refine (laws_b10At.calls _ _ l1 0 4 t187 _ ?side1 ?side2 A6.out).mono ?_); (case side1 => repeat (first | exact (Kd.C_below HR1.out HB.out) | (with_reducible refine Kd.C_alloc ?_ _) | (with_reducible refine Kd.C_drewN ?_ _) | (with_reducible refine Kd.C_drew ?_))); (case side2 => exact HC1.out); rintro e w' ⟨rfl, ⟨nd, rfl⟩⟩; (try first | exact ⟨rfl, _, World.drewN_drewN _ _ _⟩ | exact ⟨rfl, _, Eq.trans (World.drewN_drewN _ _ _) (congrArg (World.drewN _) (Nat.add_assoc _ _ _))⟩)) | (go_at_call 33; (with_reducible refine (laws_b10At.calls _ _ l1 1 4 t188 _ ?side1 ?side2 A7.out).mono ?_); (case side1 => repeat (first | exact (Kd.C_below HR1.out (by repeat (first | (with_reducible first | exact HB.out | apply below_alloc | apply pw_below_drewN | apply below_drew1) | exact HB.out))) | (with_reducible refine Kd.C_alloc ?_ _) | (with_reducible refine Kd.C_drewN ?_ _) | (with_reducible refine Kd.C_drew ?_))); (case side2 => exact HC1.out); rintro e w' ⟨rfl, ⟨nd, rfl⟩⟩; (try first | exact ⟨rfl, _, World.drewN_drewN _ _ _⟩ | exact ⟨rfl, _, Eq.trans (World.drewN_drewN _ _ _) (congrArg (World.drewN _) (Nat.add_assoc _ _ _))⟩)) | (go_at_call 33; (with_reducible refine (laws_b10At.calls _ _ l1 2 5 t189 _ ?side1 ?side2 A8.out).mono ?_); (case side1 => repeat (first | exact (Kd.C_below HR1.out (by repeat (first | (with_reducible first | exact HB.out | apply below_alloc | apply pw_below_drewN | apply below_drew1) | exact HB.out))) | (with_reducible refine Kd.C_alloc ?_ _) | (with_reducible refine Kd.C_drewN ?_ _) | (with_reducible refine Kd.C_drew ?_))); (case side2 => exact HC1.out); rintro e w' ⟨rfl, ⟨nd, rfl⟩⟩; (try first | exact ⟨rfl, _, World.drewN_drewN _ _ _⟩ | exact ⟨rfl, _, Eq.trans (World.drewN_drewN _ _ _) (congrArg (World.drewN _) (Nat.add_assoc _ _ _))⟩); obtain ⟨Ao14, co14, eo14⟩ := Kd.R_slice HO186.out; subst eo14) | (go_at_call 34; (with_reducible refine (impl_PollCycle.calls k _ _ t184 t187 t190 t191 t192 _ ?side1 ?side2 A9.out).mono ?_); (case side1 => repeat (first | exact (Kd.R_reads' HO186.out).2.2 | (with_reducible refine Kd.C_alloc ?_ _) | (with_reducible refine Kd.C_drewN ?_ _) | (with_reducible refine Kd.C_drew ?_))); (case side2 => exact (Kd.R_reads' HO186.out).2.1); rintro e w15 ⟨v193, rfl, ho0, hb⟩; have n0_ := Aside0.mk (Kd.R_elder' (by (with_reducible repeat (first | apply Kd.R_alloc | apply Kd.R_drewN | apply Kd.R_drew)); exact HO186.out) (Kd.R_base ho0) hb); have n1_ := Aside0.mk (Kd.R_lower (Kd.R_new' ho0 (Kd.R_lt (by (with_reducible repeat (first | apply Kd.R_alloc | apply Kd.R_drewN | apply Kd.R_drew)); exact HO186.out))) (below_size (by repeat (first | (with_reducible first | exact HB.out | apply below_alloc | apply pw_below_drewN | apply below_drew1) | exact HB.out)))); have n2_ := Aside0.mk (below_step (by repeat (first | (with_reducible first | exact HB.out | apply below_alloc | apply pw_below_drewN | apply below_drew1) | exact HB.out)) hb); clear HO186; clear HB; have HO186 := n0_; have HO194 := n1_; have HB := n2_; clear n0_ n1_ n2_; (try clear hb); (try clear hb2); (try clear hk); (try clear hi); (try clear ho0)) | (go_at_call 22; (with_reducible refine (impl_TokenRounds.calls k _ _ t184 (wrap64 (1 + t188)) t187 t195 t196 t197 _ ?side1 ?side2 A10.out).mono ?_); (case side1 => repeat (first | exact (Kd.R_reads' HO186.out).2.2 | (with_reducible refine Kd.C_alloc ?_ _) | (with_reducible refine Kd.C_drewN ?_ _) | (with_reducible refine Kd.C_drew ?_))); (case side2 => exact (Kd.R_reads' HO186.out).2.1); rintro e w16 ⟨v198, rfl, ho0, hb⟩; have n0_ := Aside0.mk (Kd.R_elder' (by (with_reducible repeat (first | apply Kd.R_alloc | apply Kd.R_drewN | apply Kd.R_drew)); exact HO186.out) (Kd.R_base ho0) hb); have n1_ := Aside0.mk (Kd.R_elder' (by (with_reducible repeat (first | apply Kd.R_alloc | apply Kd.R_drewN | apply Kd.R_drew)); exact HO194.out) (Kd.R_base ho0) hb); have n2_ := Aside0.mk (Kd.R_lower (Kd.R_new' (Kd.R_new' ho0 (Kd.R_lt (by (with_reducible repeat (first | apply Kd.R_alloc | apply Kd.R_drewN | apply Kd.R_drew)); exact HO186.out))) (Kd.R_lt (by (with_reducible repeat (first | apply Kd.R_alloc | apply Kd.R_drewN | apply Kd.R_drew)); exact HO194.out))) (below_size (by repeat (first | (with_reducible first | exact HB.out | apply below_alloc | apply pw_below_drewN | apply below_drew1) | exact HB.out)))); have n3_ := Aside0.mk (below_step (by repeat (first | (with_reducible first | exact HB.out | apply below_alloc | apply pw_below_drewN | apply below_drew1) | exact HB.out)) hb); clear HO186; clear HO194; clear HB; have HO186 := n0_; have HO194 := n1_; have HO199 := n2_; have HB := n3_; clear n0_ n1_ n2_ n3_; (try clear hb); (try clear hb2); (try clear hk); (try clear hi); (try clear ho0)) | (go_at_call 35; (with_reducible refine (impl_ReserveSlots.calls k _ _ t184 (wrap64 (1 + t189)) t200 t201 _ ?side1 ?side2 A11.out).mono ?_); (case side1 => repeat (first | exact (Kd.R_reads' HO186.out).2.2 | (with_reducible refine Kd.C_alloc ?_ _) | (with_reducible refine Kd.C_drewN ?_ _) | (with_reducible refine Kd.C_drew ?_))); (case side2 => exact (Kd.R_reads' HO186.out).2.1); rintro e w17 ⟨v202, rfl, ho0, hb⟩; have n0_ := Aside0.mk (Kd.R_below (by (with_reducible repeat (first | apply Kd.R_alloc | apply Kd.R_drewN | apply Kd.R_drew)); exact HO186.out) hb); have n1_ := Aside0.mk (Kd.R_below (by (with_reducible repeat (first | apply Kd.R_alloc | apply Kd.R_drewN | apply Kd.R_drew)); exact HO194.out) hb); have n2_ := Aside0.mk (Kd.R_below (by (with_reducible repeat (first | apply Kd.R_alloc | apply Kd.R_drewN | apply Kd.R_drew)); exact HO199.out) hb); have n3_ := Aside0.mk (Kd.S_lower (Kd.S_new' (Kd.S_new' (Kd.S_new' ho0 (Kd.R_lt (by (with_reducible repeat (first | apply Kd.R_alloc | apply Kd.R_drewN | apply Kd.R_drew)); exact HO186.out))) (Kd.R_lt (by (with_reducible repeat (first | apply Kd.R_alloc | apply Kd.R_drewN | apply Kd.R_drew)); exact HO194.out))) (Kd.R_lt (by (with_reducible repeat (first | apply Kd.R_alloc | apply Kd.R_drewN | apply Kd.R_drew)); exact HO199.out))) (below_size (by repeat (first | (with_reducible first | exact HB.out | apply below_alloc | apply pw_below_drewN | apply below_drew1) | exact HB.out)))); have n4_ := Aside0.mk (below_step (by repeat (first | (with_reducible first | exact HB.out | apply below_alloc | apply pw_below_drewN | apply below_drew1) | exact HB.out)) hb); clear HO186; clear HO194; clear HO199; clear HB; have HO186 := n0_; have HO194 := n1_; have HO199 := n2_; have HO203 := n3_; have HB := n4_; clear n0_ n1_ n2_ n3_ n4_; (try clear hb); (try clear hb2); (try clear hk); (try clear hi); (try clear ho0))))
    (try simp only [Act.put, List.setIfInBounds_toArray, List.set_cons_zero, List.set_cons_succ])
    go_cut [91] (fun v91 wc => ∃ (kq : Nat) (x91_11 : Bool), v91 = .bool x91_11 ∧ Aside0 (laws_FnTurns.j0 kq t184 t187 (wrap64 (1 + t189)) t190 t195 t196 t200 x91_11 = some r) ∧ Aside0 (kq ≤ k) ∧ Aside0 (Kd.R (Kd.int .i64) 2 wc w.heap.size (fun k_ => some k_ ≠ (v193 : Value).ownBlock ∧ some k_ ≠ (v198 : Value).ownBlock) (.slice Ao14 t184.length co14) t184) ∧ Aside0 (Kd.R (Kd.int .i64) 2 wc w.heap.size (fun k_ => some k_ ≠ ((.slice Ao14 t184.length co14) : Value).ownBlock ∧ some k_ ≠ (v198 : Value).ownBlock) v193 t190) ∧ Aside0 (Kd.R (Kd.int .i64) 2 wc w.heap.size (fun k_ => some k_ ≠ ((.slice Ao14 t184.length co14) : Value).ownBlock ∧ some k_ ≠ (v193 : Value).ownBlock) v198 t195) ∧ Aside0 (Kd.S (Kd.slice 2 (Kd.int .i64)) 27 wc w.heap.size (fun k_ => some k_ ≠ ((.slice Ao14 t184.length co14) : Value).ownBlock ∧ some k_ ≠ (v193 : Value).ownBlock ∧ some k_ ≠ (v198 : Value).ownBlock) v202 t200) ∧ Aside0 (Below w.heap.size w wc))
    case first =>
      have H := HC12.out
      clear HC12
      by_cases c18 : t192 = true
      · subst c18
        have H1 : (if t197 = true then (if t201 = true then (if (t190.length : Int) = (t184.length : Int) then (if (t195.length : Int) = (t184.length : Int) then ((laws_b10Sum.f k t184).bind fun t204 => (laws_FnTurns.j0 k t184 t187 (wrap64 (1 + t189)) t190 t195 t196 t200 (t191 != (wrap64 (t204 + (wrap64 (t187 * (t184.length : Int)))))))) else (laws_FnTurns.j0 k t184 t187 (wrap64 (1 + t189)) t190 t195 t196 t200 true)) else (laws_FnTurns.j0 k t184 t187 (wrap64 (1 + t189)) t190 t195 t196 t200 true)) else (laws_FnTurns.j0 k t184 t187 (wrap64 (1 + t189)) t190 t195 t196 t200 true)) else (laws_FnTurns.j0 k t184 t187 (wrap64 (1 + t189)) t190 t195 t196 t200 true)) = some r := by rw [if_pos rfl] at H; exact H
        clear H
        have H := H1
        clear H1
        by_cases c19 : t197 = true
        · subst c19
          have H1 : (if t201 = true then (if (t190.length : Int) = (t184.length : Int) then (if (t195.length : Int) = (t184.length : Int) then ((laws_b10Sum.f k t184).bind fun t204 => (laws_FnTurns.j0 k t184 t187 (wrap64 (1 + t189)) t190 t195 t196 t200 (t191 != (wrap64 (t204 + (wrap64 (t187 * (t184.length : Int)))))))) else (laws_FnTurns.j0 k t184 t187 (wrap64 (1 + t189)) t190 t195 t196 t200 true)) else (laws_FnTurns.j0 k t184 t187 (wrap64 (1 + t189)) t190 t195 t196 t200 true)) else (laws_FnTurns.j0 k t184 t187 (wrap64 (1 + t189)) t190 t195 t196 t200 true)) = some r := by rw [if_pos rfl] at H; exact H
          clear H
          have H := H1
          clear H1
          by_cases c20 : t201 = true
          · subst c20
            have H1 : (if (t190.length : Int) = (t184.length : Int) then (if (t195.length : Int) = (t184.length : Int) then ((laws_b10Sum.f k t184).bind fun t204 => (laws_FnTurns.j0 k t184 t187 (wrap64 (1 + t189)) t190 t195 t196 t200 (t191 != (wrap64 (t204 + (wrap64 (t187 * (t184.length : Int)))))))) else (laws_FnTurns.j0 k t184 t187 (wrap64 (1 + t189)) t190 t195 t196 t200 true)) else (laws_FnTurns.j0 k t184 t187 (wrap64 (1 + t189)) t190 t195 t196 t200 true)) = some r := by rw [if_pos rfl] at H; exact H
            clear H
            have H := H1
            clear H1
            by_cases c21 : (t190.length : Int) = (t184.length : Int)
            · rw [if_pos c21] at H
              have c21b0 : ((t190.length : Int) == (t184.length : Int)) = true := beq_iff_eq.mpr c21
              have c21b1 : ((t190.length : Int) != (t184.length : Int)) = false := bne_eq_false_iff_eq.mpr c21
              have c21b2 : (t190.length == t184.length) = true := by first | simpa using c21 | (simp at c21 ⊢; omega)
              clear c21
              (first | rw [c21b0] | (simp only [i64_w, i32_w]; rw [c21b0]) | skip)
              by_cases c22 : (t195.length : Int) = (t184.length : Int)
              · rw [if_pos c22] at H
                have c22b0 : ((t195.length : Int) == (t184.length : Int)) = true := beq_iff_eq.mpr c22
                have c22b1 : ((t195.length : Int) != (t184.length : Int)) = false := bne_eq_false_iff_eq.mpr c22
                have c22b2 : (t195.length == t184.length) = true := by first | simpa using c22 | (simp at c22 ⊢; omega)
                clear c22
                replace H := Option.bind_eq_some_iff.mp H
                obtain ⟨t204, A230, H⟩ := H
                replace H : (laws_FnTurns.j0 k t184 t187 (wrap64 (1 + t189)) t190 t195 t196 t200 (t191 != (wrap64 (t204 + (wrap64 (t187 * (t184.length : Int))))))) = some r := H
                have A23 := Aside0.mk A230
                clear A230
                have H' := Aside0.mk H
                clear H
                obtain ⟨Ao24, co24, eo24⟩ := Kd.R_slice HO194.out
                subst eo24
                obtain ⟨Ao25, co25, eo25⟩ := Kd.R_slice HO199.out
                subst eo25
                go_wp2_with (first | (go_at_call 36; (with_reducible refine (laws_b10Sum.calls k _ _ t184 t204 _ ?side1 ?side2 A23.out).mono ?_); (case side1 => repeat (first | exact (Kd.R_reads' HO186.out).2.2 | (with_reducible refine Kd.C_alloc ?_ _) | (with_reducible refine Kd.C_drewN ?_ _) | (with_reducible refine Kd.C_drew ?_))); (case side2 => exact (Kd.R_reads' HO186.out).2.1); rintro e w' ⟨rfl, ⟨nd, rfl⟩⟩; (try first | exact ⟨rfl, _, World.drewN_drewN _ _ _⟩ | exact ⟨rfl, _, Eq.trans (World.drewN_drewN _ _ _) (congrArg (World.drewN _) (Nat.add_assoc _ _ _))⟩)))
                repeat (go_quiet (first | (go_at_call 36; (with_reducible refine (laws_b10Sum.calls k _ _ t184 t204 _ ?side1 ?side2 A23.out).mono ?_); (case side1 => repeat (first | exact (Kd.R_reads' HO186.out).2.2 | (with_reducible refine Kd.C_alloc ?_ _) | (with_reducible refine Kd.C_drewN ?_ _) | (with_reducible refine Kd.C_drew ?_))); (case side2 => exact (Kd.R_reads' HO186.out).2.1); rintro e w' ⟨rfl, ⟨nd, rfl⟩⟩; (try first | exact ⟨rfl, _, World.drewN_drewN _ _ _⟩ | exact ⟨rfl, _, Eq.trans (World.drewN_drewN _ _ _) (congrArg (World.drewN _) (Nat.add_assoc _ _ _))⟩))); try go_wp2_with (first | (go_at_call 36; (with_reducible refine (laws_b10Sum.calls k _ _ t184 t204 _ ?side1 ?side2 A23.out).mono ?_); (case side1 => repeat (first | exact (Kd.R_reads' HO186.out).2.2 | (with_reducible refine Kd.C_alloc ?_ _) | (with_reducible refine Kd.C_drewN ?_ _) | (with_reducible refine Kd.C_drew ?_))); (case side2 => exact (Kd.R_reads' HO186.out).2.1); rintro e w' ⟨rfl, ⟨nd, rfl⟩⟩; (try first | exact ⟨rfl, _, World.drewN_drewN _ _ _⟩ | exact ⟨rfl, _, Eq.trans (World.drewN_drewN _ _ _) (congrArg (World.drewN _) (Nat.add_assoc _ _ _))⟩))))
                go_meet
                case rel => exact ⟨_, ((t191 != (wrap64 (t204 + (wrap64 (t187 * (t184.length : Int))))))), (by first | rfl | (simp; done) | (simp [*]; done)), H', ⟨by first | omega | exact Nat.le_refl _⟩, ⟨by (with_reducible repeat (first | apply Kd.R_alloc | apply Kd.R_drewN | apply Kd.R_drew)); exact Kd.R_mono HO186.out (fun _ hk => ⟨hk.1.2, hk.2⟩)⟩, ⟨by (with_reducible repeat (first | apply Kd.R_alloc | apply Kd.R_drewN | apply Kd.R_drew)); exact Kd.R_mono HO194.out (fun _ hk => ⟨hk.1.2, hk.2⟩)⟩, ⟨by (with_reducible repeat (first | apply Kd.R_alloc | apply Kd.R_drewN | apply Kd.R_drew)); exact Kd.R_mono HO199.out (fun _ hk => ⟨hk.1.2, hk.2⟩)⟩, ⟨by (with_reducible repeat (first | apply Kd.S_alloc | apply Kd.S_drewN | apply Kd.S_drew)); exact Kd.S_mono HO203.out (fun _ hk => ⟨hk.1.1.2, ⟨hk.1.2, hk.2⟩⟩)⟩, ⟨by repeat (first | (with_reducible first | exact HB.out | apply below_alloc | apply pw_below_drewN | apply below_drew1) | exact HB.out)⟩⟩
              · rw [if_neg c22] at H
                have c22b0 : ((t195.length : Int) == (t184.length : Int)) = false := beq_eq_false_iff_ne.mpr c22
                have c22b1 : ((t195.length : Int) != (t184.length : Int)) = true := bne_iff_ne.mpr c22
                have c22b2 : (t195.length == t184.length) = false := by first | simpa using c22 | (simp at c22 ⊢; omega)
                have H' := Aside0.mk H
                clear H
                obtain ⟨Ao26, co26, eo26⟩ := Kd.R_slice HO194.out
                subst eo26
                obtain ⟨Ao27, co27, eo27⟩ := Kd.R_slice HO199.out
                subst eo27
                go_wp2
                repeat (go_quiet (fail); try go_wp2)
                go_meet
                case rel => exact ⟨_, (true), (by first | rfl | (simp; done) | (simp [*]; done)), H', ⟨by first | omega | exact Nat.le_refl _⟩, ⟨by (with_reducible repeat (first | apply Kd.R_alloc | apply Kd.R_drewN | apply Kd.R_drew)); exact Kd.R_mono HO186.out (fun _ hk => ⟨hk.1.2, hk.2⟩)⟩, ⟨by (with_reducible repeat (first | apply Kd.R_alloc | apply Kd.R_drewN | apply Kd.R_drew)); exact Kd.R_mono HO194.out (fun _ hk => ⟨hk.1.2, hk.2⟩)⟩, ⟨by (with_reducible repeat (first | apply Kd.R_alloc | apply Kd.R_drewN | apply Kd.R_drew)); exact Kd.R_mono HO199.out (fun _ hk => ⟨hk.1.2, hk.2⟩)⟩, ⟨by (with_reducible repeat (first | apply Kd.S_alloc | apply Kd.S_drewN | apply Kd.S_drew)); exact Kd.S_mono HO203.out (fun _ hk => ⟨hk.1.1.2, ⟨hk.1.2, hk.2⟩⟩)⟩, ⟨by repeat (first | (with_reducible first | exact HB.out | apply below_alloc | apply pw_below_drewN | apply below_drew1) | exact HB.out)⟩⟩
            · rw [if_neg c21] at H
              have c21b0 : ((t190.length : Int) == (t184.length : Int)) = false := beq_eq_false_iff_ne.mpr c21
              have c21b1 : ((t190.length : Int) != (t184.length : Int)) = true := bne_iff_ne.mpr c21
              have c21b2 : (t190.length == t184.length) = false := by first | simpa using c21 | (simp at c21 ⊢; omega)
              (first | rw [c21b0] | (simp only [i64_w, i32_w]; rw [c21b0]) | skip)
              have H' := Aside0.mk H
              clear H
              obtain ⟨Ao28, co28, eo28⟩ := Kd.R_slice HO194.out
              subst eo28
              go_wp2
              repeat (go_quiet (fail); try go_wp2)
              go_meet
              case rel => exact ⟨_, (true), (by first | rfl | (simp; done) | (simp [*]; done)), H', ⟨by first | omega | exact Nat.le_refl _⟩, ⟨by (with_reducible repeat (first | apply Kd.R_alloc | apply Kd.R_drewN | apply Kd.R_drew)); exact Kd.R_mono HO186.out (fun _ hk => ⟨hk.1.2, hk.2⟩)⟩, ⟨by (with_reducible repeat (first | apply Kd.R_alloc | apply Kd.R_drewN | apply Kd.R_drew)); exact Kd.R_mono HO194.out (fun _ hk => ⟨hk.1.2, hk.2⟩)⟩, ⟨by (with_reducible repeat (first | apply Kd.R_alloc | apply Kd.R_drewN | apply Kd.R_drew)); exact Kd.R_mono HO199.out (fun _ hk => ⟨hk.1.2, hk.2⟩)⟩, ⟨by (with_reducible repeat (first | apply Kd.S_alloc | apply Kd.S_drewN | apply Kd.S_drew)); exact Kd.S_mono HO203.out (fun _ hk => ⟨hk.1.1.2, ⟨hk.1.2, hk.2⟩⟩)⟩, ⟨by repeat (first | (with_reducible first | exact HB.out | apply below_alloc | apply pw_below_drewN | apply below_drew1) | exact HB.out)⟩⟩
          · replace c20 := Bool.eq_false_iff.mpr c20
            subst c20
            have H1 : (laws_FnTurns.j0 k t184 t187 (wrap64 (1 + t189)) t190 t195 t196 t200 true) = some r := by rw [if_neg (show ¬ (false = true) by decide)] at H; exact H
            clear H
            have H := H1
            clear H1
            have H' := Aside0.mk H
            clear H
            go_wp2
            repeat (go_quiet (fail); try go_wp2)
            go_meet
            case rel => exact ⟨_, (true), (by first | rfl | (simp; done) | (simp [*]; done)), H', ⟨by first | omega | exact Nat.le_refl _⟩, ⟨by (with_reducible repeat (first | apply Kd.R_alloc | apply Kd.R_drewN | apply Kd.R_drew)); exact Kd.R_mono HO186.out (fun _ hk => ⟨hk.1.2, hk.2⟩)⟩, ⟨by (with_reducible repeat (first | apply Kd.R_alloc | apply Kd.R_drewN | apply Kd.R_drew)); exact Kd.R_mono HO194.out (fun _ hk => ⟨hk.1.2, hk.2⟩)⟩, ⟨by (with_reducible repeat (first | apply Kd.R_alloc | apply Kd.R_drewN | apply Kd.R_drew)); exact Kd.R_mono HO199.out (fun _ hk => ⟨hk.1.2, hk.2⟩)⟩, ⟨by (with_reducible repeat (first | apply Kd.S_alloc | apply Kd.S_drewN | apply Kd.S_drew)); exact Kd.S_mono HO203.out (fun _ hk => ⟨hk.1.1.2, ⟨hk.1.2, hk.2⟩⟩)⟩, ⟨by repeat (first | (with_reducible first | exact HB.out | apply below_alloc | apply pw_below_drewN | apply below_drew1) | exact HB.out)⟩⟩
        · replace c19 := Bool.eq_false_iff.mpr c19
          subst c19
          have H1 : (laws_FnTurns.j0 k t184 t187 (wrap64 (1 + t189)) t190 t195 t196 t200 true) = some r := by rw [if_neg (show ¬ (false = true) by decide)] at H; exact H
          clear H
          have H := H1
          clear H1
          have H' := Aside0.mk H
          clear H
          go_wp2
          repeat (go_quiet (fail); try go_wp2)
          go_meet
          case rel => exact ⟨_, (true), (by first | rfl | (simp; done) | (simp [*]; done)), H', ⟨by first | omega | exact Nat.le_refl _⟩, ⟨by (with_reducible repeat (first | apply Kd.R_alloc | apply Kd.R_drewN | apply Kd.R_drew)); exact Kd.R_mono HO186.out (fun _ hk => ⟨hk.1.2, hk.2⟩)⟩, ⟨by (with_reducible repeat (first | apply Kd.R_alloc | apply Kd.R_drewN | apply Kd.R_drew)); exact Kd.R_mono HO194.out (fun _ hk => ⟨hk.1.2, hk.2⟩)⟩, ⟨by (with_reducible repeat (first | apply Kd.R_alloc | apply Kd.R_drewN | apply Kd.R_drew)); exact Kd.R_mono HO199.out (fun _ hk => ⟨hk.1.2, hk.2⟩)⟩, ⟨by (with_reducible repeat (first | apply Kd.S_alloc | apply Kd.S_drewN | apply Kd.S_drew)); exact Kd.S_mono HO203.out (fun _ hk => ⟨hk.1.1.2, ⟨hk.1.2, hk.2⟩⟩)⟩, ⟨by repeat (first | (with_reducible first | exact HB.out | apply below_alloc | apply pw_below_drewN | apply below_drew1) | exact HB.out)⟩⟩
      · replace c18 := Bool.eq_false_iff.mpr c18
        subst c18
        have H1 : (laws_FnTurns.j0 k t184 t187 (wrap64 (1 + t189)) t190 t195 t196 t200 true) = some r := by rw [if_neg (show ¬ (false = true) by decide)] at H; exact H
        clear H
        have H := H1
        clear H1
        have H' := Aside0.mk H
        clear H
        go_wp2
        repeat (go_quiet (fail); try go_wp2)
        go_meet
        case rel => exact ⟨_, (true), (by first | rfl | (simp; done) | (simp [*]; done)), H', ⟨by first | omega | exact Nat.le_refl _⟩, ⟨by (with_reducible repeat (first | apply Kd.R_alloc | apply Kd.R_drewN | apply Kd.R_drew)); exact Kd.R_mono HO186.out (fun _ hk => ⟨hk.1.2, hk.2⟩)⟩, ⟨by (with_reducible repeat (first | apply Kd.R_alloc | apply Kd.R_drewN | apply Kd.R_drew)); exact Kd.R_mono HO194.out (fun _ hk => ⟨hk.1.2, hk.2⟩)⟩, ⟨by (with_reducible repeat (first | apply Kd.R_alloc | apply Kd.R_drewN | apply Kd.R_drew)); exact Kd.R_mono HO199.out (fun _ hk => ⟨hk.1.2, hk.2⟩)⟩, ⟨by (with_reducible repeat (first | apply Kd.S_alloc | apply Kd.S_drewN | apply Kd.S_drew)); exact Kd.S_mono HO203.out (fun _ hk => ⟨hk.1.1.2, ⟨hk.1.2, hk.2⟩⟩)⟩, ⟨by repeat (first | (with_reducible first | exact HB.out | apply below_alloc | apply pw_below_drewN | apply below_drew1) | exact HB.out)⟩⟩
    case rest => as_aux_lemma =>
      clear HC12
      try clear c1
      try clear c2
      try clear p2
      try clear c4
      try clear p6
      try clear c9
      try clear c18
      try clear c19
      try clear c20
      try clear c21
      try clear c21b0
      try clear c21b1
      try clear c21b2
      try clear c22
      try clear c22b0
      try clear c22b1
      try clear c22b2
      obtain ⟨kq, x91_11, rfl, HA, HJ11, HO_5, HO_9, HO_12, HO_15, HB⟩ := hcut
      cases kq with
      | zero => exact absurd HA.out (by simp [laws_FnTurns.j0])
      | succ kj11 =>
        have H := HA.out
        clear HA
        simp only [laws_FnTurns.j0] at H
        by_cases c29 : x91_11 = true
        · subst c29
          have H1 : (some false) = some r := by rw [if_pos rfl] at H; exact H
          clear H
          have H := H1
          clear H1
          obtain rfl := Option.some.inj H
          go_wp2
          repeat (go_quiet (fail); try go_wp2)
          go_ret
          exact ⟨by first | rfl | (simp [errW_none, errW_some] <;> rfl) | (simp [*, errW_none, errW_some] <;> rfl), by repeat (first | (with_reducible first | exact HB.out | apply below_alloc | apply pw_below_drewN | apply below_drew1) | exact HB.out)⟩
        · replace c29 := Bool.eq_false_iff.mpr c29
          subst c29
          have H1 : (laws_FnTurns.l0 kj11 t184 t187 (wrap64 (1 + t189)) t190 t195 t196 t200 0 0 0) = some r := by rw [if_neg (show ¬ (false = true) by decide)] at H; exact H
          clear H
          have H := H1
          clear H1
          have H' := Aside0.mk H
          clear H
          go_wp2
          repeat (go_quiet (fail); try go_wp2)
          go_loopg [17, 18, 19] kj11 (fun kq v17 v18 v19 w' => ∃ (x17_2 : Int) (x18_2 : Int) (x19_2 : Int), v17 = .int .i64 x17_2 ∧ v18 = .int .i64 x18_2 ∧ v19 = .int .i64 x19_2 ∧ Aside0 (laws_FnTurns.l0 kq t184 t187 (wrap64 (1 + t189)) t190 t195 t196 t200 x17_2 x18_2 x19_2 = some r) ∧ Aside0 (kq ≤ kj11) ∧ Aside0 (Kd.R (Kd.int .i64) 2 w' w.heap.size (fun k_ => some k_ ≠ (v193 : Value).ownBlock ∧ some k_ ≠ (v198 : Value).ownBlock) (.slice Ao14 t184.length co14) t184) ∧ Aside0 (Kd.R (Kd.int .i64) 2 w' w.heap.size (fun k_ => some k_ ≠ ((.slice Ao14 t184.length co14) : Value).ownBlock ∧ some k_ ≠ (v198 : Value).ownBlock) v193 t190) ∧ Aside0 (Kd.R (Kd.int .i64) 2 w' w.heap.size (fun k_ => some k_ ≠ ((.slice Ao14 t184.length co14) : Value).ownBlock ∧ some k_ ≠ (v193 : Value).ownBlock) v198 t195) ∧ Aside0 (Kd.S (Kd.slice 2 (Kd.int .i64)) 27 w' w.heap.size (fun k_ => some k_ ≠ ((.slice Ao14 t184.length co14) : Value).ownBlock ∧ some k_ ≠ (v193 : Value).ownBlock ∧ some k_ ≠ (v198 : Value).ownBlock) v202 t200) ∧ Aside0 (Below w.heap.size w w'))
          case atStart => exact ⟨(0), (0), (0), (by first | rfl | (simp; done) | (simp [*]; done)), (by first | rfl | (simp; done) | (simp [*]; done)), (by first | rfl | (simp; done) | (simp [*]; done)), H', ⟨Nat.le_refl _⟩, ⟨by (with_reducible repeat (first | apply Kd.R_alloc | apply Kd.R_drewN | apply Kd.R_drew)); exact HO_5.out⟩, ⟨by (with_reducible repeat (first | apply Kd.R_alloc | apply Kd.R_drewN | apply Kd.R_drew)); exact HO_9.out⟩, ⟨by (with_reducible repeat (first | apply Kd.R_alloc | apply Kd.R_drewN | apply Kd.R_drew)); exact HO_12.out⟩, ⟨by (with_reducible repeat (first | apply Kd.S_alloc | apply Kd.S_drewN | apply Kd.S_drew)); exact HO_15.out⟩, ⟨by repeat (first | (with_reducible first | exact HB.out | apply below_alloc | apply pw_below_drewN | apply below_drew1) | exact HB.out)⟩⟩
          case round => as_aux_lemma =>
            clear H'
            try clear c1
            try clear c2
            try clear p2
            try clear c4
            try clear p6
            try clear c9
            try clear c18
            try clear c19
            try clear c20
            try clear c21
            try clear c21b0
            try clear c21b1
            try clear c21b2
            try clear c22
            try clear c22b0
            try clear c22b1
            try clear c22b2
            try clear c29
            try clear p2
            try clear p6
            obtain ⟨x17_2, x18_2, x19_2, rfl, rfl, rfl, HA, HK2, HO_5, HO_9, HO_12, HO_15, HB⟩ := hrel
            cases gk with
            | zero => exact absurd HA.out (by simp [laws_FnTurns.l0])
            | succ k2 =>
              have H := HA.out
              clear HA
              simp only [laws_FnTurns.l0] at H
              by_cases c30 : x19_2 < (t184.length : Int)
              · rw [if_pos c30] at H
                have c30b0 : decide (x19_2 < (t184.length : Int)) = true := decide_eq_true c30
                clear c30
                have HC31 := Aside0.mk H
                clear H
                go_upto_region 17 with (fail)
                repeat (go_quiet (fail); go_upto_region 17 with (fail))
                go_cut [127] (fun v127 wc => ∃ (kq : Nat) (x127_30 : Bool), v127 = .bool x127_30 ∧ Aside0 (laws_FnTurns.j2 kq t184 t187 (wrap64 (1 + t189)) t190 t195 t196 t200 x17_2 x18_2 x19_2 x127_30 = some r) ∧ Aside0 (kq ≤ k2) ∧ Aside0 (Kd.R (Kd.int .i64) 2 wc w.heap.size (fun k_ => some k_ ≠ (v193 : Value).ownBlock ∧ some k_ ≠ (v198 : Value).ownBlock) (.slice Ao14 t184.length co14) t184) ∧ Aside0 (Kd.R (Kd.int .i64) 2 wc w.heap.size (fun k_ => some k_ ≠ ((.slice Ao14 t184.length co14) : Value).ownBlock ∧ some k_ ≠ (v198 : Value).ownBlock) v193 t190) ∧ Aside0 (Kd.R (Kd.int .i64) 2 wc w.heap.size (fun k_ => some k_ ≠ ((.slice Ao14 t184.length co14) : Value).ownBlock ∧ some k_ ≠ (v193 : Value).ownBlock) v198 t195) ∧ Aside0 (Kd.S (Kd.slice 2 (Kd.int .i64)) 27 wc w.heap.size (fun k_ => some k_ ≠ ((.slice Ao14 t184.length co14) : Value).ownBlock ∧ some k_ ≠ (v193 : Value).ownBlock ∧ some k_ ≠ (v198 : Value).ownBlock) v202 t200) ∧ Aside0 (Below w.heap.size w wc))
                case first =>
                  have H := HC31.out
                  clear HC31
                  by_cases c32 : 0 ≤ x19_2
                  · rw [if_pos c32] at H
                    have c32b0 : decide (0 ≤ x19_2) = true := decide_eq_true c32
                    clear c32
                    (first | rw [c32b0] | (simp only [i64_w, i32_w]; rw [c32b0]) | skip)
                    by_cases c33 : x19_2 < (t190.length : Int)
                    · rw [if_pos c33] at H
                      have c33b0 : decide (x19_2 < (t190.length : Int)) = true := decide_eq_true c33
                      clear c33
                      by_cases c34 : (rd t190 x19_2) = x17_2
                      · rw [if_pos c34] at H
                        have c34b0 : ((rd t190 x19_2) == x17_2) = true := beq_iff_eq.mpr c34
                        have c34b1 : ((rd t190 x19_2) != x17_2) = false := bne_eq_false_iff_eq.mpr c34
                        clear c34
                        by_cases c35 : x19_2 < (t195.length : Int)
                        · rw [if_pos c35] at H
                          have c35b0 : decide (x19_2 < (t195.length : Int)) = true := decide_eq_true c35
                          clear c35
                          by_cases c36 : (rd t195 x19_2) < (rd t184 x19_2)
                          · rw [if_pos c36] at H
                            have c36b0 : decide ((rd t195 x19_2) < (rd t184 x19_2)) = true := decide_eq_true c36
                            clear c36
                            have H' := Aside0.mk H
                            clear H
                            obtain ⟨Ao37, co37, eo37⟩ := Kd.R_slice HO_9.out
                            subst eo37
                            have p205 : 0 ≤ (x19_2 : Int) := of_decide_eq_true (by first | (with_reducible assumption) | assumption)
                            have q205 : x19_2 < (t190.length : Int) := of_decide_eq_true (by first | (with_reducible assumption) | assumption)
                            obtain ⟨ad205, e205, hx205_0⟩ := Kd.at_int (Kd.R_reads' HO_9.out).2.2 x19_2 p205 q205
                            cases e205
                            replace p205 := eq_true p205
                            replace q205 := eq_true q205
                            obtain ⟨Ao38, co38, eo38⟩ := Kd.R_slice HO_12.out
                            subst eo38
                            have p206 : 0 ≤ (x19_2 : Int) := of_decide_eq_true (by first | (with_reducible assumption) | assumption)
                            have q206 : x19_2 < (t195.length : Int) := of_decide_eq_true (by first | (with_reducible assumption) | assumption)
                            obtain ⟨ad206, e206, hx206_0⟩ := Kd.at_int (Kd.R_reads' HO_12.out).2.2 x19_2 p206 q206
                            cases e206
                            replace p206 := eq_true p206
                            replace q206 := eq_true q206
                            have p207 : 0 ≤ (x19_2 : Int) := of_decide_eq_true (by first | (with_reducible assumption) | assumption)
                            have q207 : x19_2 < (t184.length : Int) := of_decide_eq_true (by first | (with_reducible assumption) | assumption)
                            obtain ⟨ad207, e207, hx207_0⟩ := Kd.at_int (Kd.R_reads' HO_5.out).2.2 x19_2 p207 q207
                            cases e207
                            replace p207 := eq_true p207
                            replace q207 := eq_true q207
                            go_wp2
                            repeat (go_quiet (fail); try go_wp2)
                            go_meet
                            case rel => exact ⟨_, (true), (by first | rfl | (simp; done) | (simp [*]; done)), H', ⟨by have := HJ11.out; have := HK2.out; first | omega | exact Nat.le_refl _⟩, ⟨by (with_reducible repeat (first | apply Kd.R_alloc | apply Kd.R_drewN | apply Kd.R_drew)); exact HO_5.out⟩, ⟨by (with_reducible repeat (first | apply Kd.R_alloc | apply Kd.R_drewN | apply Kd.R_drew)); exact HO_9.out⟩, ⟨by (with_reducible repeat (first | apply Kd.R_alloc | apply Kd.R_drewN | apply Kd.R_drew)); exact HO_12.out⟩, ⟨by (with_reducible repeat (first | apply Kd.S_alloc | apply Kd.S_drewN | apply Kd.S_drew)); exact HO_15.out⟩, ⟨by repeat (first | (with_reducible first | exact HB.out | apply below_alloc | apply pw_below_drewN | apply below_drew1) | exact HB.out)⟩⟩
                          · rw [if_neg c36] at H
                            have c36b0 : decide ((rd t195 x19_2) < (rd t184 x19_2)) = false := decide_eq_false c36
                            clear c36
                            have H' := Aside0.mk H
                            clear H
                            obtain ⟨Ao39, co39, eo39⟩ := Kd.R_slice HO_9.out
                            subst eo39
                            have p205 : 0 ≤ (x19_2 : Int) := of_decide_eq_true (by first | (with_reducible assumption) | assumption)
                            have q205 : x19_2 < (t190.length : Int) := of_decide_eq_true (by first | (with_reducible assumption) | assumption)
                            obtain ⟨ad205, e205, hx205_0⟩ := Kd.at_int (Kd.R_reads' HO_9.out).2.2 x19_2 p205 q205
                            cases e205
                            replace p205 := eq_true p205
                            replace q205 := eq_true q205
                            obtain ⟨Ao40, co40, eo40⟩ := Kd.R_slice HO_12.out
                            subst eo40
                            have p206 : 0 ≤ (x19_2 : Int) := of_decide_eq_true (by first | (with_reducible assumption) | assumption)
                            have q206 : x19_2 < (t195.length : Int) := of_decide_eq_true (by first | (with_reducible assumption) | assumption)
                            obtain ⟨ad206, e206, hx206_0⟩ := Kd.at_int (Kd.R_reads' HO_12.out).2.2 x19_2 p206 q206
                            cases e206
                            replace p206 := eq_true p206
                            replace q206 := eq_true q206
                            have p207 : 0 ≤ (x19_2 : Int) := of_decide_eq_true (by first | (with_reducible assumption) | assumption)
                            have q207 : x19_2 < (t184.length : Int) := of_decide_eq_true (by first | (with_reducible assumption) | assumption)
                            obtain ⟨ad207, e207, hx207_0⟩ := Kd.at_int (Kd.R_reads' HO_5.out).2.2 x19_2 p207 q207
                            cases e207
                            replace p207 := eq_true p207
                            replace q207 := eq_true q207
                            have p208 : 0 ≤ (x19_2 : Int) := of_decide_eq_true (by first | (with_reducible assumption) | assumption)
                            have q208 : x19_2 < (t195.length : Int) := of_decide_eq_true (by first | (with_reducible assumption) | assumption)
                            obtain ⟨ad208, e208, hx208_0⟩ := Kd.at_int (Kd.R_reads' HO_12.out).2.2 x19_2 p208 q208
                            obtain rfl : ad206 = ad208 := (by injection e208)
                            replace p208 := eq_true p208
                            replace q208 := eq_true q208
                            have p209 : 0 ≤ (x19_2 : Int) := of_decide_eq_true (by first | (with_reducible assumption) | assumption)
                            have q209 : x19_2 < (t184.length : Int) := of_decide_eq_true (by first | (with_reducible assumption) | assumption)
                            obtain ⟨ad209, e209, hx209_0⟩ := Kd.at_int (Kd.R_reads' HO_5.out).2.2 x19_2 p209 q209
                            obtain rfl : ad207 = ad209 := (by injection e209)
                            replace p209 := eq_true p209
                            replace q209 := eq_true q209
                            go_wp2
                            repeat (go_quiet (fail); try go_wp2)
                            go_meet
                            case rel => exact ⟨_, ((((rd t195 x19_2) == 0) != ((rd t184 x19_2) == 0))), (by first | rfl | (simp; done) | (simp [*]; done)), H', ⟨by have := HJ11.out; have := HK2.out; first | omega | exact Nat.le_refl _⟩, ⟨by (with_reducible repeat (first | apply Kd.R_alloc | apply Kd.R_drewN | apply Kd.R_drew)); exact HO_5.out⟩, ⟨by (with_reducible repeat (first | apply Kd.R_alloc | apply Kd.R_drewN | apply Kd.R_drew)); exact HO_9.out⟩, ⟨by (with_reducible repeat (first | apply Kd.R_alloc | apply Kd.R_drewN | apply Kd.R_drew)); exact HO_12.out⟩, ⟨by (with_reducible repeat (first | apply Kd.S_alloc | apply Kd.S_drewN | apply Kd.S_drew)); exact HO_15.out⟩, ⟨by repeat (first | (with_reducible first | exact HB.out | apply below_alloc | apply pw_below_drewN | apply below_drew1) | exact HB.out)⟩⟩
                        · rw [if_neg c35] at H
                          exact absurd H (by simp)
                      · rw [if_neg c34] at H
                        have c34b0 : ((rd t190 x19_2) == x17_2) = false := beq_eq_false_iff_ne.mpr c34
                        have c34b1 : ((rd t190 x19_2) != x17_2) = true := bne_iff_ne.mpr c34
                        have H' := Aside0.mk H
                        clear H
                        obtain ⟨Ao41, co41, eo41⟩ := Kd.R_slice HO_9.out
                        subst eo41
                        have p205 : 0 ≤ (x19_2 : Int) := of_decide_eq_true (by first | (with_reducible assumption) | assumption)
                        have q205 : x19_2 < (t190.length : Int) := of_decide_eq_true (by first | (with_reducible assumption) | assumption)
                        obtain ⟨ad205, e205, hx205_0⟩ := Kd.at_int (Kd.R_reads' HO_9.out).2.2 x19_2 p205 q205
                        cases e205
                        replace p205 := eq_true p205
                        replace q205 := eq_true q205
                        go_wp2
                        repeat (go_quiet (fail); try go_wp2)
                        go_meet
                        case rel => exact ⟨_, (true), (by first | rfl | (simp; done) | (simp [*]; done)), H', ⟨by have := HJ11.out; have := HK2.out; first | omega | exact Nat.le_refl _⟩, ⟨by (with_reducible repeat (first | apply Kd.R_alloc | apply Kd.R_drewN | apply Kd.R_drew)); exact HO_5.out⟩, ⟨by (with_reducible repeat (first | apply Kd.R_alloc | apply Kd.R_drewN | apply Kd.R_drew)); exact HO_9.out⟩, ⟨by (with_reducible repeat (first | apply Kd.R_alloc | apply Kd.R_drewN | apply Kd.R_drew)); exact HO_12.out⟩, ⟨by (with_reducible repeat (first | apply Kd.S_alloc | apply Kd.S_drewN | apply Kd.S_drew)); exact HO_15.out⟩, ⟨by repeat (first | (with_reducible first | exact HB.out | apply below_alloc | apply pw_below_drewN | apply below_drew1) | exact HB.out)⟩⟩
                    · rw [if_neg c33] at H
                      exact absurd H (by simp)
                  · rw [if_neg c32] at H
                    exact absurd H (by simp)
                case rest => as_aux_lemma =>
                  clear HC31
                  try clear c1
                  try clear c2
                  try clear p2
                  try clear q2
                  try clear hx2
                  try clear c3
                  try clear c4
                  try clear p6
                  try clear c9
                  try clear c18
                  try clear c19
                  try clear c20
                  try clear p20
                  try clear q20
                  try clear hx20
                  try clear c21
                  try clear c21b0
                  try clear c21b1
                  try clear c21b2
                  try clear c22
                  try clear c22b0
                  try clear c22b1
                  try clear c22b2
                  try clear c29
                  try clear c30
                  try clear c30b0
                  try clear c32
                  try clear c32b0
                  try clear c33
                  try clear c33b0
                  try clear c34
                  try clear c34b0
                  try clear c34b1
                  try clear c35
                  try clear c35b0
                  try clear c36
                  try clear c36b0
                  try clear hx205_0
                  try clear hx206_0
                  try clear hx207_0
                  try clear hx208_0
                  try clear hx209_0
                  try clear p2
                  try clear p205
                  try clear p206
                  try clear p207
                  try clear p208
                  try clear p209
                  try clear p6
                  try clear q205
                  try clear q206
                  try clear q207
                  try clear q208
                  try clear q209
                  obtain ⟨kq, x127_30, rfl, HA, HJ30, HO_5, HO_9, HO_12, HO_15, HB⟩ := hcut
                  cases kq with
                  | zero => exact absurd HA.out (by simp [laws_FnTurns.j2])
                  | succ kj30 =>
                    have H := HA.out
                    clear HA
                    simp only [laws_FnTurns.j2] at H
                    by_cases c42 : x127_30 = true
                    · subst c42
                      have H1 : (some false) = some r := by rw [if_pos rfl] at H; exact H
                      clear H
                      have H := H1
                      clear H1
                      obtain rfl := Option.some.inj H
                      go_wp2
                      repeat (go_quiet (fail); try go_wp2)
                      go_ret
                      exact ⟨by first | rfl | (simp [errW_none, errW_some] <;> rfl) | (simp [*, errW_none, errW_some] <;> rfl), by repeat (first | (with_reducible first | exact HB.out | apply below_alloc | apply pw_below_drewN | apply below_drew1) | exact HB.out)⟩
                    · replace c42 := Bool.eq_false_iff.mpr c42
                      subst c42
                      have H1 : (if 0 ≤ x19_2 then (if x19_2 < (t184.length : Int) then (if x19_2 < (t195.length : Int) then (if (rd t195 x19_2) > x18_2 then (laws_FnTurns.l0 kj30 t184 t187 (wrap64 (1 + t189)) t190 t195 t196 t200 (wrap64 (x17_2 + (wrap64 ((rd t184 x19_2) + t187)))) (rd t195 x19_2) (wrap64 (x19_2 + 1))) else (laws_FnTurns.l0 kj30 t184 t187 (wrap64 (1 + t189)) t190 t195 t196 t200 (wrap64 (x17_2 + (wrap64 ((rd t184 x19_2) + t187)))) x18_2 (wrap64 (x19_2 + 1)))) else (none)) else (none)) else (none)) = some r := by rw [if_neg (show ¬ (false = true) by decide)] at H; exact H
                      clear H
                      have H := H1
                      clear H1
                      by_cases c43 : 0 ≤ x19_2
                      · rw [if_pos c43] at H
                        have c43b0 : decide (0 ≤ x19_2) = true := decide_eq_true c43
                        clear c43
                        by_cases c44 : x19_2 < (t184.length : Int)
                        · rw [if_pos c44] at H
                          have c44b0 : decide (x19_2 < (t184.length : Int)) = true := decide_eq_true c44
                          clear c44
                          by_cases c45 : x19_2 < (t195.length : Int)
                          · rw [if_pos c45] at H
                            have c45b0 : decide (x19_2 < (t195.length : Int)) = true := decide_eq_true c45
                            clear c45
                            by_cases c46 : (rd t195 x19_2) > x18_2
                            · rw [if_pos c46] at H
                              have c46b0 : decide (x18_2 < (rd t195 x19_2)) = true := decide_eq_true c46
                              clear c46
                              have H' := Aside0.mk H
                              clear H
                              have p210 : 0 ≤ (x19_2 : Int) := of_decide_eq_true (by first | (with_reducible assumption) | assumption)
                              have q210 : x19_2 < (t184.length : Int) := of_decide_eq_true (by first | (with_reducible assumption) | assumption)
                              obtain ⟨ad210, e210, hx210_0⟩ := Kd.at_int (Kd.R_reads' HO_5.out).2.2 x19_2 p210 q210
                              cases e210
                              replace p210 := eq_true p210
                              replace q210 := eq_true q210
                              obtain ⟨Ao47, co47, eo47⟩ := Kd.R_slice HO_12.out
                              subst eo47
                              have p211 : 0 ≤ (x19_2 : Int) := of_decide_eq_true (by first | (with_reducible assumption) | assumption)
                              have q211 : x19_2 < (t195.length : Int) := of_decide_eq_true (by first | (with_reducible assumption) | assumption)
                              obtain ⟨ad211, e211, hx211_0⟩ := Kd.at_int (Kd.R_reads' HO_12.out).2.2 x19_2 p211 q211
                              cases e211
                              replace p211 := eq_true p211
                              replace q211 := eq_true q211
                              have p212 : 0 ≤ (x19_2 : Int) := of_decide_eq_true (by first | (with_reducible assumption) | assumption)
                              have q212 : x19_2 < (t195.length : Int) := of_decide_eq_true (by first | (with_reducible assumption) | assumption)
                              obtain ⟨ad212, e212, hx212_0⟩ := Kd.at_int (Kd.R_reads' HO_12.out).2.2 x19_2 p212 q212
                              obtain rfl : ad211 = ad212 := (by injection e212)
                              replace p212 := eq_true p212
                              replace q212 := eq_true q212
                              go_wp2
                              repeat (go_quiet (fail); try go_wp2)
                              go_roundg kj30
                              case measure => have := HJ11.out; have := HK2.out; have := HJ30.out; omega
                              case rel => exact ⟨(wrap64 (x17_2 + (wrap64 ((rd t184 x19_2) + t187)))), (rd t195 x19_2), (wrap64 (x19_2 + 1)), (by first | rfl | (simp; done) | (simp [*]; done)), (by first | rfl | (simp; done) | (simp [*]; done)), (by first | rfl | (simp; done) | (simp [*]; done)), H', ⟨by have := HJ11.out; have := HK2.out; have := HJ30.out; omega⟩, ⟨by (with_reducible repeat (first | apply Kd.R_alloc | apply Kd.R_drewN | apply Kd.R_drew)); exact HO_5.out⟩, ⟨by (with_reducible repeat (first | apply Kd.R_alloc | apply Kd.R_drewN | apply Kd.R_drew)); exact HO_9.out⟩, ⟨by (with_reducible repeat (first | apply Kd.R_alloc | apply Kd.R_drewN | apply Kd.R_drew)); exact HO_12.out⟩, ⟨by (with_reducible repeat (first | apply Kd.S_alloc | apply Kd.S_drewN | apply Kd.S_drew)); exact HO_15.out⟩, ⟨by repeat (first | (with_reducible first | exact HB.out | apply below_alloc | apply pw_below_drewN | apply below_drew1) | exact HB.out)⟩⟩
                            · rw [if_neg c46] at H
                              have c46b0 : decide (x18_2 < (rd t195 x19_2)) = false := decide_eq_false c46
                              clear c46
                              have H' := Aside0.mk H
                              clear H
                              have p210 : 0 ≤ (x19_2 : Int) := of_decide_eq_true (by first | (with_reducible assumption) | assumption)
                              have q210 : x19_2 < (t184.length : Int) := of_decide_eq_true (by first | (with_reducible assumption) | assumption)
                              obtain ⟨ad210, e210, hx210_0⟩ := Kd.at_int (Kd.R_reads' HO_5.out).2.2 x19_2 p210 q210
                              cases e210
                              replace p210 := eq_true p210
                              replace q210 := eq_true q210
                              obtain ⟨Ao48, co48, eo48⟩ := Kd.R_slice HO_12.out
                              subst eo48
                              have p211 : 0 ≤ (x19_2 : Int) := of_decide_eq_true (by first | (with_reducible assumption) | assumption)
                              have q211 : x19_2 < (t195.length : Int) := of_decide_eq_true (by first | (with_reducible assumption) | assumption)
                              obtain ⟨ad211, e211, hx211_0⟩ := Kd.at_int (Kd.R_reads' HO_12.out).2.2 x19_2 p211 q211
                              cases e211
                              replace p211 := eq_true p211
                              replace q211 := eq_true q211
                              go_wp2
                              repeat (go_quiet (fail); try go_wp2)
                              go_roundg kj30
                              case measure => have := HJ11.out; have := HK2.out; have := HJ30.out; omega
                              case rel => exact ⟨(wrap64 (x17_2 + (wrap64 ((rd t184 x19_2) + t187)))), (x18_2), (wrap64 (x19_2 + 1)), (by first | rfl | (simp; done) | (simp [*]; done)), (by first | rfl | (simp; done) | (simp [*]; done)), (by first | rfl | (simp; done) | (simp [*]; done)), H', ⟨by have := HJ11.out; have := HK2.out; have := HJ30.out; omega⟩, ⟨by (with_reducible repeat (first | apply Kd.R_alloc | apply Kd.R_drewN | apply Kd.R_drew)); exact HO_5.out⟩, ⟨by (with_reducible repeat (first | apply Kd.R_alloc | apply Kd.R_drewN | apply Kd.R_drew)); exact HO_9.out⟩, ⟨by (with_reducible repeat (first | apply Kd.R_alloc | apply Kd.R_drewN | apply Kd.R_drew)); exact HO_12.out⟩, ⟨by (with_reducible repeat (first | apply Kd.S_alloc | apply Kd.S_drewN | apply Kd.S_drew)); exact HO_15.out⟩, ⟨by repeat (first | (with_reducible first | exact HB.out | apply below_alloc | apply pw_below_drewN | apply below_drew1) | exact HB.out)⟩⟩
                          · rw [if_neg c45] at H
                            exact absurd H (by simp)
                        · rw [if_neg c44] at H
                          exact absurd H (by simp)
                      · rw [if_neg c43] at H
                        exact absurd H (by simp)
              · rw [if_neg c30] at H
                have c30b0 : decide (x19_2 < (t184.length : Int)) = false := decide_eq_false c30
                clear c30
                have HC49 := Aside0.mk H
                clear H
                go_upto_region 22 with (fail)
                repeat (go_quiet (fail); go_upto_region 22 with (fail))
                go_cut [154] (fun v154 wc => ∃ (kq : Nat) (x154_48 : Bool), v154 = .bool x154_48 ∧ Aside0 (laws_FnTurns.j3 kq t184 (wrap64 (1 + t189)) t200 x154_48 = some r) ∧ Aside0 (kq ≤ k2) ∧ Aside0 (Kd.R (Kd.int .i64) 2 wc w.heap.size (fun _ => True) (.slice Ao14 t184.length co14) t184) ∧ Aside0 (Kd.S (Kd.slice 2 (Kd.int .i64)) 27 wc w.heap.size (fun k_ => some k_ ≠ ((.slice Ao14 t184.length co14) : Value).ownBlock) v202 t200) ∧ Aside0 (Below w.heap.size w wc))
                case first =>
                  have H := HC49.out
                  clear HC49
                  by_cases c50 : x18_2 = t196
                  · rw [if_pos c50] at H
                    have c50b0 : (x18_2 == t196) = true := beq_iff_eq.mpr c50
                    have c50b1 : (x18_2 != t196) = false := bne_eq_false_iff_eq.mpr c50
                    clear c50
                    (first | rw [c50b0] | (simp only [i64_w, i32_w]; rw [c50b0]) | skip)
                    replace H := Option.bind_eq_some_iff.mp H
                    obtain ⟨t213, A510, H⟩ := H
                    replace H : (laws_FnTurns.j3 k2 t184 (wrap64 (1 + t189)) t200 (decide (t196 < t213))) = some r := H
                    have A51 := Aside0.mk A510
                    clear A510
                    have H' := Aside0.mk H
                    clear H
                    go_wp2_with (first | (go_at_call 36; (with_reducible refine (laws_b10Sum.calls k2 _ _ t184 t213 _ ?side1 ?side2 A51.out).mono ?_); (case side1 => repeat (first | exact (Kd.R_reads' HO_5.out).2.2 | (with_reducible refine Kd.C_alloc ?_ _) | (with_reducible refine Kd.C_drewN ?_ _) | (with_reducible refine Kd.C_drew ?_))); (case side2 => exact (Kd.R_reads' HO_5.out).2.1); rintro e w' ⟨rfl, ⟨nd, rfl⟩⟩; (try first | exact ⟨rfl, _, World.drewN_drewN _ _ _⟩ | exact ⟨rfl, _, Eq.trans (World.drewN_drewN _ _ _) (congrArg (World.drewN _) (Nat.add_assoc _ _ _))⟩)))
                    repeat (go_quiet (first | (go_at_call 36; (with_reducible refine (laws_b10Sum.calls k2 _ _ t184 t213 _ ?side1 ?side2 A51.out).mono ?_); (case side1 => repeat (first | exact (Kd.R_reads' HO_5.out).2.2 | (with_reducible refine Kd.C_alloc ?_ _) | (with_reducible refine Kd.C_drewN ?_ _) | (with_reducible refine Kd.C_drew ?_))); (case side2 => exact (Kd.R_reads' HO_5.out).2.1); rintro e w' ⟨rfl, ⟨nd, rfl⟩⟩; (try first | exact ⟨rfl, _, World.drewN_drewN _ _ _⟩ | exact ⟨rfl, _, Eq.trans (World.drewN_drewN _ _ _) (congrArg (World.drewN _) (Nat.add_assoc _ _ _))⟩))); try go_wp2_with (first | (go_at_call 36; (with_reducible refine (laws_b10Sum.calls k2 _ _ t184 t213 _ ?side1 ?side2 A51.out).mono ?_); (case side1 => repeat (first | exact (Kd.R_reads' HO_5.out).2.2 | (with_reducible refine Kd.C_alloc ?_ _) | (with_reducible refine Kd.C_drewN ?_ _) | (with_reducible refine Kd.C_drew ?_))); (case side2 => exact (Kd.R_reads' HO_5.out).2.1); rintro e w' ⟨rfl, ⟨nd, rfl⟩⟩; (try first | exact ⟨rfl, _, World.drewN_drewN _ _ _⟩ | exact ⟨rfl, _, Eq.trans (World.drewN_drewN _ _ _) (congrArg (World.drewN _) (Nat.add_assoc _ _ _))⟩))))
                    go_meet
                    case rel => exact ⟨_, (decide (t196 < t213)), (by first | rfl | (simp; done) | (simp [*]; done)), H', ⟨by have := HJ11.out; have := HK2.out; first | omega | exact Nat.le_refl _⟩, ⟨by (with_reducible repeat (first | apply Kd.R_alloc | apply Kd.R_drewN | apply Kd.R_drew)); exact Kd.R_mono HO_5.out (fun _ hk => trivial)⟩, ⟨by (with_reducible repeat (first | apply Kd.S_alloc | apply Kd.S_drewN | apply Kd.S_drew)); exact Kd.S_mono HO_15.out (fun _ hk => hk.1)⟩, ⟨by repeat (first | (with_reducible first | exact HB.out | apply below_alloc | apply pw_below_drewN | apply below_drew1) | exact HB.out)⟩⟩
                  · rw [if_neg c50] at H
                    have c50b0 : (x18_2 == t196) = false := beq_eq_false_iff_ne.mpr c50
                    have c50b1 : (x18_2 != t196) = true := bne_iff_ne.mpr c50
                    (first | rw [c50b0] | (simp only [i64_w, i32_w]; rw [c50b0]) | skip)
                    have H' := Aside0.mk H
                    clear H
                    go_wp2
                    repeat (go_quiet (fail); try go_wp2)
                    go_meet
                    case rel => exact ⟨_, (true), (by first | rfl | (simp; done) | (simp [*]; done)), H', ⟨by have := HJ11.out; have := HK2.out; first | omega | exact Nat.le_refl _⟩, ⟨by (with_reducible repeat (first | apply Kd.R_alloc | apply Kd.R_drewN | apply Kd.R_drew)); exact Kd.R_mono HO_5.out (fun _ hk => trivial)⟩, ⟨by (with_reducible repeat (first | apply Kd.S_alloc | apply Kd.S_drewN | apply Kd.S_drew)); exact Kd.S_mono HO_15.out (fun _ hk => hk.1)⟩, ⟨by repeat (first | (with_reducible first | exact HB.out | apply below_alloc | apply pw_below_drewN | apply below_drew1) | exact HB.out)⟩⟩
                case rest => as_aux_lemma =>
                  clear HC49
                  try clear c1
                  try clear c2
                  try clear p2
                  try clear q2
                  try clear hx2
                  try clear c3
                  try clear c4
                  try clear c5
                  try clear p6
                  try clear c9
                  try clear c18
                  try clear c19
                  try clear c20
                  try clear p20
                  try clear q20
                  try clear hx20
                  try clear c21
                  try clear c21b0
                  try clear c21b1
                  try clear c21b2
                  try clear p21
                  try clear q21
                  try clear hx21
                  try clear c22
                  try clear c22b0
                  try clear c22b1
                  try clear c22b2
                  try clear c29
                  try clear c30
                  try clear c30b0
                  try clear c32
                  try clear c32b0
                  try clear c33
                  try clear c33b0
                  try clear c34
                  try clear c34b0
                  try clear c34b1
                  try clear c35
                  try clear c35b0
                  try clear c36
                  try clear c36b0
                  try clear c42
                  try clear c43
                  try clear c43b0
                  try clear c44
                  try clear c44b0
                  try clear c45
                  try clear c45b0
                  try clear c46
                  try clear c46b0
                  try clear c50
                  try clear c50b0
                  try clear c50b1
                  try clear hx205_0
                  try clear hx206_0
                  try clear hx207_0
                  try clear hx208_0
                  try clear hx209_0
                  try clear hx210_0
                  try clear hx211_0
                  try clear hx212_0
                  try clear p2
                  try clear p20
                  try clear p205
                  try clear p206
                  try clear p207
                  try clear p208
                  try clear p209
                  try clear p210
                  try clear p211
                  try clear p212
                  try clear p6
                  try clear q2
                  try clear q20
                  try clear q205
                  try clear q206
                  try clear q207
                  try clear q208
                  try clear q209
                  try clear q210
                  try clear q211
                  try clear q212
                  obtain ⟨kq, x154_48, rfl, HA, HJ48, HO_5, HO_15, HB⟩ := hcut
                  cases kq with
                  | zero => exact absurd HA.out (by simp [laws_FnTurns.j3])
                  | succ kj48 =>
                    have H := HA.out
                    clear HA
                    simp only [laws_FnTurns.j3] at H
                    by_cases c52 : x154_48 = true
                    · subst c52
                      have H1 : (some false) = some r := by rw [if_pos rfl] at H; exact H
                      clear H
                      have H := H1
                      clear H1
                      obtain rfl := Option.some.inj H
                      go_wp2
                      repeat (go_quiet (fail); try go_wp2)
                      go_ret
                      exact ⟨by first | rfl | (simp [errW_none, errW_some] <;> rfl) | (simp [*, errW_none, errW_some] <;> rfl), by repeat (first | (with_reducible first | exact HB.out | apply below_alloc | apply pw_below_drewN | apply below_drew1) | exact HB.out)⟩
                    · replace c52 := Bool.eq_false_iff.mpr c52
                      subst c52
                      have H1 : (if 0 ≤ (t184.length : Int) then (if ((t184.length : Int) : Int).toNat ≤ 35184372088832 then (laws_FnTurns.l1 kj48 t184 (wrap64 (1 + t189)) t200 (List.replicate ((t184.length : Int) : Int).toNat 0) 0) else (none)) else (none)) = some r := by rw [if_neg (show ¬ (false = true) by decide)] at H; exact H
                      clear H
                      have H := H1
                      clear H1
                      by_cases c53 : 0 ≤ (t184.length : Int)
                      · rw [if_pos c53] at H
                        have c53b0 := eq_true c53
                        have c53b1 : decide (0 ≤ (t184.length : Int)) = true := decide_eq_true c53
                        clear c53
                        by_cases c54 : ((t184.length : Int) : Int).toNat ≤ 35184372088832
                        · rw [if_pos c54] at H
                          have c54b0 := eq_true c54
                          have c54b1 : decide (((t184.length : Int) : Int).toNat ≤ 35184372088832) = true := decide_eq_true c54
                          clear c54
                          obtain ⟨y214, hy214⟩ : ∃ y_ : List Int, y_ = (List.replicate ((t184.length : Int) : Int).toNat 0) := ⟨_, rfl⟩
                          replace H : (laws_FnTurns.l1 kj48 t184 (wrap64 (1 + t189)) t200 y214 0) = some r := by first | (rw [hy214]; with_reducible exact H) | (have H2_ := (Option.bind_some _ _).symm.trans H; rw [hy214]; with_reducible exact H2_) | (have H2_ := (Option.bind_some _ _).symm.trans H; with_reducible exact H2_) | with_reducible exact H | (rw [hy214]; exact H) | exact H
                          have Ny214 := Aside0.mk hy214
                          clear hy214
                          have H' := Aside0.mk H
                          clear H
                          go_wp2_with (first | ((with_reducible refine gate_dst (N := 157) rfl ?_); (try (refine gate_guard (by rfl) ?_; dsimp only)); refine Kd.R_make (Kd.int .i64) _ 2 rfl (N := 157) rfl 27 _ _ rfl (t184.length : Int) rfl rfl Try.underlying27 (.int .i64 0) 8 info2 rfl (by decide) (by omega) 0 (ok := fun _ => True) (okp := fun _ => True) rfl (fun _ hk => hk) trivial (of_decide_eq_true (by first | (with_reducible assumption) | assumption)) (Nat.le_trans (Nat.mul_le_mul_right _ (of_decide_eq_true (by first | (with_reducible assumption) | assumption) : (t184.length : Int).toNat ≤ 35184372088832)) (by omega)) (Below.refl _ _) (Nat.le_refl _) ?_; intro v215 w55 ho56 hb hg_ hnew_; clear hg_ hnew_; (first | rw [← Ny214.out] at ho56 | (simp only [Int.reduceToNat] at ho56; rw [← Ny214.out] at ho56)); have n0_ := Aside0.mk (Kd.R_elder' (by (with_reducible repeat (first | apply Kd.R_alloc | apply Kd.R_drewN | apply Kd.R_drew)); exact HO_5.out) (Kd.R_base ho56) hb); have n1_ := Aside0.mk (Kd.S_elder' (by (with_reducible repeat (first | apply Kd.S_alloc | apply Kd.S_drewN | apply Kd.S_drew)); exact HO_15.out) (Kd.R_base ho56) hb); have n2_ := Aside0.mk (Kd.R_lower (Kd.R_new' ho56 (Kd.R_lt (by (with_reducible repeat (first | apply Kd.R_alloc | apply Kd.R_drewN | apply Kd.R_drew)); exact HO_5.out))) (below_size (by repeat (first | (with_reducible first | exact HB.out | apply below_alloc | apply pw_below_drewN | apply below_drew1) | exact HB.out)))); have n3_ := Aside0.mk (below_step (by repeat (first | (with_reducible first | exact HB.out | apply below_alloc | apply pw_below_drewN | apply below_drew1) | exact HB.out)) hb); clear HO_5; clear HO_15; clear HB; have HO_5 := n0_; have HO_15 := n1_; have HO216 := n2_; have HB := n3_; clear n0_ n1_ n2_ n3_; clear hb ho56))
                          repeat (go_quiet (first | ((with_reducible refine gate_dst (N := 157) rfl ?_); (try (refine gate_guard (by rfl) ?_; dsimp only)); refine Kd.R_make (Kd.int .i64) _ 2 rfl (N := 157) rfl 27 _ _ rfl (t184.length : Int) rfl rfl Try.underlying27 (.int .i64 0) 8 info2 rfl (by decide) (by omega) 0 (ok := fun _ => True) (okp := fun _ => True) rfl (fun _ hk => hk) trivial (of_decide_eq_true (by first | (with_reducible assumption) | assumption)) (Nat.le_trans (Nat.mul_le_mul_right _ (of_decide_eq_true (by first | (with_reducible assumption) | assumption) : (t184.length : Int).toNat ≤ 35184372088832)) (by omega)) (Below.refl _ _) (Nat.le_refl _) ?_; intro v215 w55 ho56 hb hg_ hnew_; clear hg_ hnew_; (first | rw [← Ny214.out] at ho56 | (simp only [Int.reduceToNat] at ho56; rw [← Ny214.out] at ho56)); have n0_ := Aside0.mk (Kd.R_elder' (by (with_reducible repeat (first | apply Kd.R_alloc | apply Kd.R_drewN | apply Kd.R_drew)); exact HO_5.out) (Kd.R_base ho56) hb); have n1_ := Aside0.mk (Kd.S_elder' (by (with_reducible repeat (first | apply Kd.S_alloc | apply Kd.S_drewN | apply Kd.S_drew)); exact HO_15.out) (Kd.R_base ho56) hb); have n2_ := Aside0.mk (Kd.R_lower (Kd.R_new' ho56 (Kd.R_lt (by (with_reducible repeat (first | apply Kd.R_alloc | apply Kd.R_drewN | apply Kd.R_drew)); exact HO_5.out))) (below_size (by repeat (first | (with_reducible first | exact HB.out | apply below_alloc | apply pw_below_drewN | apply below_drew1) | exact HB.out)))); have n3_ := Aside0.mk (below_step (by repeat (first | (with_reducible first | exact HB.out | apply below_alloc | apply pw_below_drewN | apply below_drew1) | exact HB.out)) hb); clear HO_5; clear HO_15; clear HB; have HO_5 := n0_; have HO_15 := n1_; have HO216 := n2_; have HB := n3_; clear n0_ n1_ n2_ n3_; clear hb ho56)); try go_wp2_with (first | ((with_reducible refine gate_dst (N := 157) rfl ?_); (try (refine gate_guard (by rfl) ?_; dsimp only)); refine Kd.R_make (Kd.int .i64) _ 2 rfl (N := 157) rfl 27 _ _ rfl (t184.length : Int) rfl rfl Try.underlying27 (.int .i64 0) 8 info2 rfl (by decide) (by omega) 0 (ok := fun _ => True) (okp := fun _ => True) rfl (fun _ hk => hk) trivial (of_decide_eq_true (by first | (with_reducible assumption) | assumption)) (Nat.le_trans (Nat.mul_le_mul_right _ (of_decide_eq_true (by first | (with_reducible assumption) | assumption) : (t184.length : Int).toNat ≤ 35184372088832)) (by omega)) (Below.refl _ _) (Nat.le_refl _) ?_; intro v215 w55 ho56 hb hg_ hnew_; clear hg_ hnew_; (first | rw [← Ny214.out] at ho56 | (simp only [Int.reduceToNat] at ho56; rw [← Ny214.out] at ho56)); have n0_ := Aside0.mk (Kd.R_elder' (by (with_reducible repeat (first | apply Kd.R_alloc | apply Kd.R_drewN | apply Kd.R_drew)); exact HO_5.out) (Kd.R_base ho56) hb); have n1_ := Aside0.mk (Kd.S_elder' (by (with_reducible repeat (first | apply Kd.S_alloc | apply Kd.S_drewN | apply Kd.S_drew)); exact HO_15.out) (Kd.R_base ho56) hb); have n2_ := Aside0.mk (Kd.R_lower (Kd.R_new' ho56 (Kd.R_lt (by (with_reducible repeat (first | apply Kd.R_alloc | apply Kd.R_drewN | apply Kd.R_drew)); exact HO_5.out))) (below_size (by repeat (first | (with_reducible first | exact HB.out | apply below_alloc | apply pw_below_drewN | apply below_drew1) | exact HB.out)))); have n3_ := Aside0.mk (below_step (by repeat (first | (with_reducible first | exact HB.out | apply below_alloc | apply pw_below_drewN | apply below_drew1) | exact HB.out)) hb); clear HO_5; clear HO_15; clear HB; have HO_5 := n0_; have HO_15 := n1_; have HO216 := n2_; have HB := n3_; clear n0_ n1_ n2_ n3_; clear hb ho56)))
                          go_loopg [21] kj48 (fun kq v21 w' => ∃ (x20_4 : List Int) (x21_4 : Int), v21 = .int .i64 x21_4 ∧ Aside0 (laws_FnTurns.l1 kq t184 (wrap64 (1 + t189)) t200 x20_4 x21_4 = some r) ∧ Aside0 (kq ≤ kj48) ∧ Aside0 (Kd.R (Kd.int .i64) 2 w' w.heap.size (fun k_ => some k_ ≠ (v215 : Value).ownBlock) (.slice Ao14 t184.length co14) t184) ∧ Aside0 (Kd.S (Kd.slice 2 (Kd.int .i64)) 27 w' w.heap.size (fun k_ => some k_ ≠ ((.slice Ao14 t184.length co14) : Value).ownBlock ∧ some k_ ≠ (v215 : Value).ownBlock) v202 t200) ∧ Aside0 (Kd.R (Kd.int .i64) 2 w' w.heap.size (fun k_ => some k_ ≠ ((.slice Ao14 t184.length co14) : Value).ownBlock) v215 x20_4) ∧ Aside0 (Below w.heap.size w w'))
                          case atStart => exact ⟨(y214), (0), (by first | rfl | (simp; done) | (simp [*]; done)), H', ⟨Nat.le_refl _⟩, ⟨by (with_reducible repeat (first | apply Kd.R_alloc | apply Kd.R_drewN | apply Kd.R_drew)); exact Kd.R_mono HO_5.out (fun _ hk => hk.2)⟩, ⟨by (with_reducible repeat (first | apply Kd.S_alloc | apply Kd.S_drewN | apply Kd.S_drew)); exact HO_15.out⟩, ⟨by (with_reducible repeat (first | apply Kd.R_alloc | apply Kd.R_drewN | apply Kd.R_drew)); exact Kd.R_mono HO216.out (fun _ hk => hk.2)⟩, ⟨by repeat (first | (with_reducible first | exact HB.out | apply below_alloc | apply pw_below_drewN | apply below_drew1) | exact HB.out)⟩⟩
                          case round => as_aux_lemma =>
                            clear H'
                            try clear c1
                            try clear c2
                            try clear p2
                            try clear q2
                            try clear hx2
                            try clear c3
                            try clear c4
                            try clear c5
                            try clear p6
                            try clear c9
                            try clear c18
                            try clear c19
                            try clear c20
                            try clear p20
                            try clear q20
                            try clear hx20
                            try clear c21
                            try clear c21b0
                            try clear c21b1
                            try clear c21b2
                            try clear p21
                            try clear q21
                            try clear hx21
                            try clear c22
                            try clear c22b0
                            try clear c22b1
                            try clear c22b2
                            try clear c29
                            try clear c30
                            try clear c30b0
                            try clear c32
                            try clear c32b0
                            try clear c33
                            try clear c33b0
                            try clear c34
                            try clear c34b0
                            try clear c34b1
                            try clear c35
                            try clear c35b0
                            try clear c36
                            try clear c36b0
                            try clear c42
                            try clear c43
                            try clear c43b0
                            try clear c44
                            try clear c44b0
                            try clear c45
                            try clear c45b0
                            try clear c46
                            try clear c46b0
                            try clear c50
                            try clear c50b0
                            try clear c50b1
                            try clear c52
                            try clear c53
                            try clear c53b0
                            try clear c53b1
                            try clear c54
                            try clear c54b0
                            try clear c54b1
                            try clear hx205_0
                            try clear hx206_0
                            try clear hx207_0
                            try clear hx208_0
                            try clear hx209_0
                            try clear hx210_0
                            try clear hx211_0
                            try clear hx212_0
                            try clear p2
                            try clear p20
                            try clear p205
                            try clear p206
                            try clear p207
                            try clear p208
                            try clear p209
                            try clear p21
                            try clear p210
                            try clear p211
                            try clear p212
                            try clear p6
                            try clear q2
                            try clear q20
                            try clear q205
                            try clear q206
                            try clear q207
                            try clear q208
                            try clear q209
                            try clear q21
                            try clear q210
                            try clear q211
                            try clear q212
                            obtain ⟨x20_4, x21_4, rfl, HA, HK4, HO_5, HO_15, HO_20, HB⟩ := hrel
                            cases gk with
                            | zero => exact absurd HA.out (by simp [laws_FnTurns.l1])
                            | succ k4 =>
                              have H := HA.out
                              clear HA
                              simp only [laws_FnTurns.l1] at H
                              by_cases c57 : x21_4 < (t200.length : Int)
                              · rw [if_pos c57] at H
                                have c57b0 : decide (x21_4 < (t200.length : Int)) = true := decide_eq_true c57
                                clear c57
                                have HC58 := Aside0.mk H
                                clear H
                                obtain ⟨Ao59, co59, eo59⟩ := Kd.S_slice HO_15.out
                                subst eo59
                                go_upto_region 28 with (fail)
                                repeat (go_quiet (fail); go_upto_region 28 with (fail))
                                go_cut [194] (fun v194 wc => ∃ (kq : Nat) (x194_57 : Bool), v194 = .bool x194_57 ∧ Aside0 (laws_FnTurns.j5 kq t184 (wrap64 (1 + t189)) t200 x20_4 x21_4 x194_57 = some r) ∧ Aside0 (kq ≤ k4) ∧ Aside0 (Kd.R (Kd.int .i64) 2 wc w.heap.size (fun k_ => some k_ ≠ (v215 : Value).ownBlock) (.slice Ao14 t184.length co14) t184) ∧ Aside0 (Kd.S (Kd.slice 2 (Kd.int .i64)) 27 wc w.heap.size (fun k_ => some k_ ≠ ((.slice Ao14 t184.length co14) : Value).ownBlock ∧ some k_ ≠ (v215 : Value).ownBlock) (.slice Ao59 t200.length co59) t200) ∧ Aside0 (Kd.R (Kd.int .i64) 2 wc w.heap.size (fun k_ => some k_ ≠ ((.slice Ao14 t184.length co14) : Value).ownBlock) v215 x20_4) ∧ Aside0 (Below w.heap.size w wc))
                                case first =>
                                  have H := HC58.out
                                  clear HC58
                                  by_cases c60 : 0 ≤ x21_4
                                  · rw [if_pos c60] at H
                                    have c60b0 : decide (0 ≤ x21_4) = true := decide_eq_true c60
                                    clear c60
                                    (first | rw [c60b0] | (simp only [i64_w, i32_w]; rw [c60b0]) | skip)
                                    by_cases c61 : ((rd_L2 t200 x21_4).length : Int) = 0
                                    · rw [if_pos c61] at H
                                      have c61b0 : (((rd_L2 t200 x21_4).length : Int) == 0) = true := beq_iff_eq.mpr c61
                                      have c61b1 : (((rd_L2 t200 x21_4).length : Int) != 0) = false := bne_eq_false_iff_eq.mpr c61
                                      clear c61
                                      have H' := Aside0.mk H
                                      clear H
                                      have p218 : 0 ≤ (x21_4 : Int) := of_decide_eq_true (by first | (with_reducible assumption) | assumption)
                                      have q218 : x21_4 < (t200.length : Int) := of_decide_eq_true (by first | (with_reducible assumption) | assumption)
                                      obtain ⟨ad218, A218_0, c218_0, e218, hx218_0, hl218_0, hi218_0⟩ := at_L2 (Kd.S_reads' HO_15.out).2.2 x21_4 p218 q218
                                      cases e218
                                      obtain ⟨ce218, hce218, hMe218, hcc218⟩ := Kd.S_get HO_15.out [] x21_4 p218 (by first | exact q218 | exact of_decide_eq_true (by first | (with_reducible assumption) | assumption) | (have e_ := (Kd.S_reads' HO_15.out).1; omega))
                                      obtain ⟨ve218_0, rfl, ge218_0⟩ := hMe218
                                      have hv218_0 := hcc218 0 _ rfl
                                      rw [Nat.add_zero, show ((Kd.slice 2 (Kd.int .i64))).sz = 1 from rfl, Nat.mul_one] at hv218_0
                                      replace hv218_0 := Option.some.inj (hv218_0.symm.trans hx218_0)
                                      rw [hv218_0] at ge218_0
                                      have HL218_0 := Aside0.mk (show Kd.R (Kd.int .i64) 2 _ _ _ _ (rd_L2 t200 x21_4) from ge218_0)
                                      clear hv218_0 ge218_0
                                      clear hcc218 hce218
                                      have HR218_0 := Aside0.mk hi218_0
                                      have HC218_0 := Aside0.mk hl218_0
                                      clear hi218_0 hl218_0
                                      replace p218 := eq_true p218
                                      replace q218 := eq_true q218
                                      go_wp2
                                      repeat (go_quiet (fail); try go_wp2)
                                      go_meet
                                      case rel => exact ⟨_, (true), (by first | rfl | (simp; done) | (simp [*]; done)), H', ⟨by have := HJ11.out; have := HK2.out; have := HJ48.out; have := HK4.out; first | omega | exact Nat.le_refl _⟩, ⟨by (with_reducible repeat (first | apply Kd.R_alloc | apply Kd.R_drewN | apply Kd.R_drew)); exact HO_5.out⟩, ⟨by (with_reducible repeat (first | apply Kd.S_alloc | apply Kd.S_drewN | apply Kd.S_drew)); exact HO_15.out⟩, ⟨by (with_reducible repeat (first | apply Kd.R_alloc | apply Kd.R_drewN | apply Kd.R_drew)); exact HO_20.out⟩, ⟨by repeat (first | (with_reducible first | exact HB.out | apply below_alloc | apply pw_below_drewN | apply below_drew1) | exact HB.out)⟩⟩
                                    · rw [if_neg c61] at H
                                      have c61b0 : (((rd_L2 t200 x21_4).length : Int) == 0) = false := beq_eq_false_iff_ne.mpr c61
                                      have c61b1 : (((rd_L2 t200 x21_4).length : Int) != 0) = true := bne_iff_ne.mpr c61
                                      have c61b2 : ¬ ((rd_L2 t200 x21_4) = []) := fun h_ => c61 (by rw [h_]; rfl)
                                      by_cases c62 : ((rd_L2 t200 x21_4).length : Int) > (wrap64 (1 + t189))
                                      · rw [if_pos c62] at H
                                        have c62b0 : decide ((wrap64 (1 + t189)) < ((rd_L2 t200 x21_4).length : Int)) = true := decide_eq_true c62
                                        clear c62
                                        have H' := Aside0.mk H
                                        clear H
                                        have p218 : 0 ≤ (x21_4 : Int) := of_decide_eq_true (by first | (with_reducible assumption) | assumption)
                                        have q218 : x21_4 < (t200.length : Int) := of_decide_eq_true (by first | (with_reducible assumption) | assumption)
                                        obtain ⟨ad218, A218_0, c218_0, e218, hx218_0, hl218_0, hi218_0⟩ := at_L2 (Kd.S_reads' HO_15.out).2.2 x21_4 p218 q218
                                        cases e218
                                        obtain ⟨ce218, hce218, hMe218, hcc218⟩ := Kd.S_get HO_15.out [] x21_4 p218 (by first | exact q218 | exact of_decide_eq_true (by first | (with_reducible assumption) | assumption) | (have e_ := (Kd.S_reads' HO_15.out).1; omega))
                                        obtain ⟨ve218_0, rfl, ge218_0⟩ := hMe218
                                        have hv218_0 := hcc218 0 _ rfl
                                        rw [Nat.add_zero, show ((Kd.slice 2 (Kd.int .i64))).sz = 1 from rfl, Nat.mul_one] at hv218_0
                                        replace hv218_0 := Option.some.inj (hv218_0.symm.trans hx218_0)
                                        rw [hv218_0] at ge218_0
                                        have HL218_0 := Aside0.mk (show Kd.R (Kd.int .i64) 2 _ _ _ _ (rd_L2 t200 x21_4) from ge218_0)
                                        clear hv218_0 ge218_0
                                        clear hcc218 hce218
                                        have HR218_0 := Aside0.mk hi218_0
                                        have HC218_0 := Aside0.mk hl218_0
                                        clear hi218_0 hl218_0
                                        replace p218 := eq_true p218
                                        replace q218 := eq_true q218
                                        have p219 : 0 ≤ (x21_4 : Int) := of_decide_eq_true (by first | (with_reducible assumption) | assumption)
                                        have q219 : x21_4 < (t200.length : Int) := of_decide_eq_true (by first | (with_reducible assumption) | assumption)
                                        obtain ⟨ad219, A219_0, c219_0, e219, hx219_0, hl219_0, hi219_0⟩ := at_L2 (Kd.S_reads' HO_15.out).2.2 x21_4 p219 q219
                                        obtain rfl : ad218 = ad219 := (by injection e219)
                                        obtain ⟨ce219, hce219, hMe219, hcc219⟩ := Kd.S_get HO_15.out [] x21_4 p219 (by first | exact q219 | exact of_decide_eq_true (by first | (with_reducible assumption) | assumption) | (have e_ := (Kd.S_reads' HO_15.out).1; omega))
                                        obtain ⟨ve219_0, rfl, ge219_0⟩ := hMe219
                                        have hv219_0 := hcc219 0 _ rfl
                                        rw [Nat.add_zero, show ((Kd.slice 2 (Kd.int .i64))).sz = 1 from rfl, Nat.mul_one] at hv219_0
                                        replace hv219_0 := Option.some.inj (hv219_0.symm.trans hx219_0)
                                        rw [hv219_0] at ge219_0
                                        have HL219_0 := Aside0.mk (show Kd.R (Kd.int .i64) 2 _ _ _ _ (rd_L2 t200 x21_4) from ge219_0)
                                        clear hv219_0 ge219_0
                                        clear hcc219 hce219
                                        have HR219_0 := Aside0.mk hi219_0
                                        have HC219_0 := Aside0.mk hl219_0
                                        clear hi219_0 hl219_0
                                        replace p219 := eq_true p219
                                        replace q219 := eq_true q219
                                        have ea_ := Option.some.inj (hx218_0.symm.trans hx219_0)
                                        injection ea_ with ea_ en_ ec_
                                        subst ea_
                                        subst ec_
                                        clear en_
                                        go_wp2
                                        repeat (go_quiet (fail); try go_wp2)
                                        go_meet
                                        case rel => exact ⟨_, (true), (by first | rfl | (simp; done) | (simp [*]; done)), H', ⟨by have := HJ11.out; have := HK2.out; have := HJ48.out; have := HK4.out; first | omega | exact Nat.le_refl _⟩, ⟨by (with_reducible repeat (first | apply Kd.R_alloc | apply Kd.R_drewN | apply Kd.R_drew)); exact HO_5.out⟩, ⟨by (with_reducible repeat (first | apply Kd.S_alloc | apply Kd.S_drewN | apply Kd.S_drew)); exact HO_15.out⟩, ⟨by (with_reducible repeat (first | apply Kd.R_alloc | apply Kd.R_drewN | apply Kd.R_drew)); exact HO_20.out⟩, ⟨by repeat (first | (with_reducible first | exact HB.out | apply below_alloc | apply pw_below_drewN | apply below_drew1) | exact HB.out)⟩⟩
                                      · rw [if_neg c62] at H
                                        have c62b0 : decide ((wrap64 (1 + t189)) < ((rd_L2 t200 x21_4).length : Int)) = false := decide_eq_false c62
                                        clear c62
                                        by_cases c63 : (wrap64 (x21_4 + 1)) < (t200.length : Int)
                                        · rw [if_pos c63] at H
                                          have c63b0 : decide ((wrap64 (x21_4 + 1)) < (t200.length : Int)) = true := decide_eq_true c63
                                          clear c63
                                          have H' := Aside0.mk H
                                          clear H
                                          have p218 : 0 ≤ (x21_4 : Int) := of_decide_eq_true (by first | (with_reducible assumption) | assumption)
                                          have q218 : x21_4 < (t200.length : Int) := of_decide_eq_true (by first | (with_reducible assumption) | assumption)
                                          obtain ⟨ad218, A218_0, c218_0, e218, hx218_0, hl218_0, hi218_0⟩ := at_L2 (Kd.S_reads' HO_15.out).2.2 x21_4 p218 q218
                                          cases e218
                                          obtain ⟨ce218, hce218, hMe218, hcc218⟩ := Kd.S_get HO_15.out [] x21_4 p218 (by first | exact q218 | exact of_decide_eq_true (by first | (with_reducible assumption) | assumption) | (have e_ := (Kd.S_reads' HO_15.out).1; omega))
                                          obtain ⟨ve218_0, rfl, ge218_0⟩ := hMe218
                                          have hv218_0 := hcc218 0 _ rfl
                                          rw [Nat.add_zero, show ((Kd.slice 2 (Kd.int .i64))).sz = 1 from rfl, Nat.mul_one] at hv218_0
                                          replace hv218_0 := Option.some.inj (hv218_0.symm.trans hx218_0)
                                          rw [hv218_0] at ge218_0
                                          have HL218_0 := Aside0.mk (show Kd.R (Kd.int .i64) 2 _ _ _ _ (rd_L2 t200 x21_4) from ge218_0)
                                          clear hv218_0 ge218_0
                                          clear hcc218 hce218
                                          have HR218_0 := Aside0.mk hi218_0
                                          have HC218_0 := Aside0.mk hl218_0
                                          clear hi218_0 hl218_0
                                          replace p218 := eq_true p218
                                          replace q218 := eq_true q218
                                          have p219 : 0 ≤ (x21_4 : Int) := of_decide_eq_true (by first | (with_reducible assumption) | assumption)
                                          have q219 : x21_4 < (t200.length : Int) := of_decide_eq_true (by first | (with_reducible assumption) | assumption)
                                          obtain ⟨ad219, A219_0, c219_0, e219, hx219_0, hl219_0, hi219_0⟩ := at_L2 (Kd.S_reads' HO_15.out).2.2 x21_4 p219 q219
                                          obtain rfl : ad218 = ad219 := (by injection e219)
                                          obtain ⟨ce219, hce219, hMe219, hcc219⟩ := Kd.S_get HO_15.out [] x21_4 p219 (by first | exact q219 | exact of_decide_eq_true (by first | (with_reducible assumption) | assumption) | (have e_ := (Kd.S_reads' HO_15.out).1; omega))
                                          obtain ⟨ve219_0, rfl, ge219_0⟩ := hMe219
                                          have hv219_0 := hcc219 0 _ rfl
                                          rw [Nat.add_zero, show ((Kd.slice 2 (Kd.int .i64))).sz = 1 from rfl, Nat.mul_one] at hv219_0
                                          replace hv219_0 := Option.some.inj (hv219_0.symm.trans hx219_0)
                                          rw [hv219_0] at ge219_0
                                          have HL219_0 := Aside0.mk (show Kd.R (Kd.int .i64) 2 _ _ _ _ (rd_L2 t200 x21_4) from ge219_0)
                                          clear hv219_0 ge219_0
                                          clear hcc219 hce219
                                          have HR219_0 := Aside0.mk hi219_0
                                          have HC219_0 := Aside0.mk hl219_0
                                          clear hi219_0 hl219_0
                                          replace p219 := eq_true p219
                                          replace q219 := eq_true q219
                                          have ea_ := Option.some.inj (hx218_0.symm.trans hx219_0)
                                          injection ea_ with ea_ en_ ec_
                                          subst ea_
                                          subst ec_
                                          clear en_
                                          have p220 : 0 ≤ (x21_4 : Int) := of_decide_eq_true (by first | (with_reducible assumption) | assumption)
                                          have q220 : x21_4 < (t200.length : Int) := of_decide_eq_true (by first | (with_reducible assumption) | assumption)
                                          obtain ⟨ad220, A220_0, c220_0, e220, hx220_0, hl220_0, hi220_0⟩ := at_L2 (Kd.S_reads' HO_15.out).2.2 x21_4 p220 q220
                                          obtain rfl : ad218 = ad220 := (by injection e220)
                                          obtain ⟨ce220, hce220, hMe220, hcc220⟩ := Kd.S_get HO_15.out [] x21_4 p220 (by first | exact q220 | exact of_decide_eq_true (by first | (with_reducible assumption) | assumption) | (have e_ := (Kd.S_reads' HO_15.out).1; omega))
                                          obtain ⟨ve220_0, rfl, ge220_0⟩ := hMe220
                                          have hv220_0 := hcc220 0 _ rfl
                                          rw [Nat.add_zero, show ((Kd.slice 2 (Kd.int .i64))).sz = 1 from rfl, Nat.mul_one] at hv220_0
                                          replace hv220_0 := Option.some.inj (hv220_0.symm.trans hx220_0)
                                          rw [hv220_0] at ge220_0
                                          have HL220_0 := Aside0.mk (show Kd.R (Kd.int .i64) 2 _ _ _ _ (rd_L2 t200 x21_4) from ge220_0)
                                          clear hv220_0 ge220_0
                                          clear hcc220 hce220
                                          have HR220_0 := Aside0.mk hi220_0
                                          have HC220_0 := Aside0.mk hl220_0
                                          clear hi220_0 hl220_0
                                          replace p220 := eq_true p220
                                          replace q220 := eq_true q220
                                          have ea_ := Option.some.inj (hx218_0.symm.trans hx220_0)
                                          injection ea_ with ea_ en_ ec_
                                          subst ea_
                                          subst ec_
                                          clear en_
                                          go_wp2
                                          repeat (go_quiet (fail); try go_wp2)
                                          go_meet
                                          case rel => exact ⟨_, ((((rd_L2 t200 x21_4).length : Int) != (wrap64 (1 + t189)))), (by first | rfl | (simp; done) | (simp [*]; done)), H', ⟨by have := HJ11.out; have := HK2.out; have := HJ48.out; have := HK4.out; first | omega | exact Nat.le_refl _⟩, ⟨by (with_reducible repeat (first | apply Kd.R_alloc | apply Kd.R_drewN | apply Kd.R_drew)); exact HO_5.out⟩, ⟨by (with_reducible repeat (first | apply Kd.S_alloc | apply Kd.S_drewN | apply Kd.S_drew)); exact HO_15.out⟩, ⟨by (with_reducible repeat (first | apply Kd.R_alloc | apply Kd.R_drewN | apply Kd.R_drew)); exact HO_20.out⟩, ⟨by repeat (first | (with_reducible first | exact HB.out | apply below_alloc | apply pw_below_drewN | apply below_drew1) | exact HB.out)⟩⟩
                                        · rw [if_neg c63] at H
                                          have c63b0 : decide ((wrap64 (x21_4 + 1)) < (t200.length : Int)) = false := decide_eq_false c63
                                          clear c63
                                          have H' := Aside0.mk H
                                          clear H
                                          have p218 : 0 ≤ (x21_4 : Int) := of_decide_eq_true (by first | (with_reducible assumption) | assumption)
                                          have q218 : x21_4 < (t200.length : Int) := of_decide_eq_true (by first | (with_reducible assumption) | assumption)
                                          obtain ⟨ad218, A218_0, c218_0, e218, hx218_0, hl218_0, hi218_0⟩ := at_L2 (Kd.S_reads' HO_15.out).2.2 x21_4 p218 q218
                                          cases e218
                                          obtain ⟨ce218, hce218, hMe218, hcc218⟩ := Kd.S_get HO_15.out [] x21_4 p218 (by first | exact q218 | exact of_decide_eq_true (by first | (with_reducible assumption) | assumption) | (have e_ := (Kd.S_reads' HO_15.out).1; omega))
                                          obtain ⟨ve218_0, rfl, ge218_0⟩ := hMe218
                                          have hv218_0 := hcc218 0 _ rfl
                                          rw [Nat.add_zero, show ((Kd.slice 2 (Kd.int .i64))).sz = 1 from rfl, Nat.mul_one] at hv218_0
                                          replace hv218_0 := Option.some.inj (hv218_0.symm.trans hx218_0)
                                          rw [hv218_0] at ge218_0
                                          have HL218_0 := Aside0.mk (show Kd.R (Kd.int .i64) 2 _ _ _ _ (rd_L2 t200 x21_4) from ge218_0)
                                          clear hv218_0 ge218_0
                                          clear hcc218 hce218
                                          have HR218_0 := Aside0.mk hi218_0
                                          have HC218_0 := Aside0.mk hl218_0
                                          clear hi218_0 hl218_0
                                          replace p218 := eq_true p218
                                          replace q218 := eq_true q218
                                          have p219 : 0 ≤ (x21_4 : Int) := of_decide_eq_true (by first | (with_reducible assumption) | assumption)
                                          have q219 : x21_4 < (t200.length : Int) := of_decide_eq_true (by first | (with_reducible assumption) | assumption)
                                          obtain ⟨ad219, A219_0, c219_0, e219, hx219_0, hl219_0, hi219_0⟩ := at_L2 (Kd.S_reads' HO_15.out).2.2 x21_4 p219 q219
                                          obtain rfl : ad218 = ad219 := (by injection e219)
                                          obtain ⟨ce219, hce219, hMe219, hcc219⟩ := Kd.S_get HO_15.out [] x21_4 p219 (by first | exact q219 | exact of_decide_eq_true (by first | (with_reducible assumption) | assumption) | (have e_ := (Kd.S_reads' HO_15.out).1; omega))
                                          obtain ⟨ve219_0, rfl, ge219_0⟩ := hMe219
                                          have hv219_0 := hcc219 0 _ rfl
                                          rw [Nat.add_zero, show ((Kd.slice 2 (Kd.int .i64))).sz = 1 from rfl, Nat.mul_one] at hv219_0
                                          replace hv219_0 := Option.some.inj (hv219_0.symm.trans hx219_0)
                                          rw [hv219_0] at ge219_0
                                          have HL219_0 := Aside0.mk (show Kd.R (Kd.int .i64) 2 _ _ _ _ (rd_L2 t200 x21_4) from ge219_0)
                                          clear hv219_0 ge219_0
                                          clear hcc219 hce219
                                          have HR219_0 := Aside0.mk hi219_0
                                          have HC219_0 := Aside0.mk hl219_0
                                          clear hi219_0 hl219_0
                                          replace p219 := eq_true p219
                                          replace q219 := eq_true q219
                                          have ea_ := Option.some.inj (hx218_0.symm.trans hx219_0)
                                          injection ea_ with ea_ en_ ec_
                                          subst ea_
                                          subst ec_
                                          clear en_
                                          go_wp2
                                          repeat (go_quiet (fail); try go_wp2)
                                          go_meet
                                          case rel => exact ⟨_, (false), (by first | rfl | (simp; done) | (simp [*]; done)), H', ⟨by have := HJ11.out; have := HK2.out; have := HJ48.out; have := HK4.out; first | omega | exact Nat.le_refl _⟩, ⟨by (with_reducible repeat (first | apply Kd.R_alloc | apply Kd.R_drewN | apply Kd.R_drew)); exact HO_5.out⟩, ⟨by (with_reducible repeat (first | apply Kd.S_alloc | apply Kd.S_drewN | apply Kd.S_drew)); exact HO_15.out⟩, ⟨by (with_reducible repeat (first | apply Kd.R_alloc | apply Kd.R_drewN | apply Kd.R_drew)); exact HO_20.out⟩, ⟨by repeat (first | (with_reducible first | exact HB.out | apply below_alloc | apply pw_below_drewN | apply below_drew1) | exact HB.out)⟩⟩
                                  · rw [if_neg c60] at H
                                    exact absurd H (by simp)
                                case rest => as_aux_lemma =>
                                  clear HC58
                                  try clear c1
                                  try clear c2
                                  try clear p2
                                  try clear q2
                                  try clear hx2
                                  try clear c3
                                  try clear c4
                                  try clear c5
                                  try clear c6
                                  try clear p6
                                  try clear c9
                                  try clear c18
                                  try clear c19
                                  try clear c20
                                  try clear p20
                                  try clear q20
                                  try clear hx20
                                  try clear c21
                                  try clear c21b0
                                  try clear c21b1
                                  try clear c21b2
                                  try clear p21
                                  try clear q21
                                  try clear hx21
                                  try clear c22
                                  try clear c22b0
                                  try clear c22b1
                                  try clear c22b2
                                  try clear p22
                                  try clear q22
                                  try clear hx22
                                  try clear c29
                                  try clear c30
                                  try clear c30b0
                                  try clear c32
                                  try clear c32b0
                                  try clear c33
                                  try clear c33b0
                                  try clear c34
                                  try clear c34b0
                                  try clear c34b1
                                  try clear c35
                                  try clear c35b0
                                  try clear c36
                                  try clear c36b0
                                  try clear c42
                                  try clear c43
                                  try clear c43b0
                                  try clear c44
                                  try clear c44b0
                                  try clear c45
                                  try clear c45b0
                                  try clear c46
                                  try clear c46b0
                                  try clear c50
                                  try clear c50b0
                                  try clear c50b1
                                  try clear c52
                                  try clear c53
                                  try clear c53b0
                                  try clear c53b1
                                  try clear c54
                                  try clear c54b0
                                  try clear c54b1
                                  try clear c57
                                  try clear c57b0
                                  try clear c60
                                  try clear c60b0
                                  try clear c61
                                  try clear c61b0
                                  try clear c61b1
                                  try clear c61b2
                                  try clear c62
                                  try clear c62b0
                                  try clear c63
                                  try clear c63b0
                                  try clear hx205_0
                                  try clear hx206_0
                                  try clear hx207_0
                                  try clear hx208_0
                                  try clear hx209_0
                                  try clear hx210_0
                                  try clear hx211_0
                                  try clear hx212_0
                                  try clear hx218_0
                                  try clear hx219_0
                                  try clear hx220_0
                                  try clear p2
                                  try clear p20
                                  try clear p205
                                  try clear p206
                                  try clear p207
                                  try clear p208
                                  try clear p209
                                  try clear p21
                                  try clear p210
                                  try clear p211
                                  try clear p212
                                  try clear p218
                                  try clear p219
                                  try clear p220
                                  try clear p6
                                  try clear q2
                                  try clear q20
                                  try clear q205
                                  try clear q206
                                  try clear q207
                                  try clear q208
                                  try clear q209
                                  try clear q21
                                  try clear q210
                                  try clear q211
                                  try clear q212
                                  try clear q218
                                  try clear q219
                                  try clear q220
                                  obtain ⟨kq, x194_57, rfl, HA, HJ57, HO_5, HO_15, HO_20, HB⟩ := hcut
                                  cases kq with
                                  | zero => exact absurd HA.out (by simp [laws_FnTurns.j5])
                                  | succ kj57 =>
                                    have H := HA.out
                                    clear HA
                                    simp only [laws_FnTurns.j5] at H
                                    by_cases c64 : x194_57 = true
                                    · subst c64
                                      have H1 : (some false) = some r := by rw [if_pos rfl] at H; exact H
                                      clear H
                                      have H := H1
                                      clear H1
                                      obtain rfl := Option.some.inj H
                                      go_wp2
                                      repeat (go_quiet (fail); try go_wp2)
                                      go_ret
                                      exact ⟨by first | rfl | (simp [errW_none, errW_some] <;> rfl) | (simp [*, errW_none, errW_some] <;> rfl), by repeat (first | (with_reducible first | exact HB.out | apply below_alloc | apply pw_below_drewN | apply below_drew1) | exact HB.out)⟩
                                    · replace c64 := Bool.eq_false_iff.mpr c64
                                      subst c64
                                      have H1 : (laws_FnTurns.l2 kj57 t184 (wrap64 (1 + t189)) t200 x20_4 x21_4 0) = some r := by rw [if_neg (show ¬ (false = true) by decide)] at H; exact H
                                      clear H
                                      have H := H1
                                      clear H1
                                      have H' := Aside0.mk H
                                      clear H
                                      go_wp2
                                      repeat (go_quiet (fail); try go_wp2)
                                      go_loopg [22] kj57 (fun kq v22 w' => ∃ (x20_6 : List Int) (x22_6 : Int), v22 = .int .i64 x22_6 ∧ Aside0 (laws_FnTurns.l2 kq t184 (wrap64 (1 + t189)) t200 x20_6 x21_4 x22_6 = some r) ∧ Aside0 (kq ≤ kj57) ∧ Aside0 (Kd.R (Kd.int .i64) 2 w' w.heap.size (fun k_ => some k_ ≠ (v215 : Value).ownBlock) (.slice Ao14 t184.length co14) t184) ∧ Aside0 (Kd.S (Kd.slice 2 (Kd.int .i64)) 27 w' w.heap.size (fun k_ => some k_ ≠ ((.slice Ao14 t184.length co14) : Value).ownBlock ∧ some k_ ≠ (v215 : Value).ownBlock) (.slice Ao59 t200.length co59) t200) ∧ Aside0 (Kd.R (Kd.int .i64) 2 w' w.heap.size (fun k_ => some k_ ≠ ((.slice Ao14 t184.length co14) : Value).ownBlock) v215 x20_6) ∧ Aside0 (Below w.heap.size w w'))
                                      case atStart => exact ⟨(x20_4), (0), (by first | rfl | (simp; done) | (simp [*]; done)), H', ⟨Nat.le_refl _⟩, ⟨by (with_reducible repeat (first | apply Kd.R_alloc | apply Kd.R_drewN | apply Kd.R_drew)); exact HO_5.out⟩, ⟨by (with_reducible repeat (first | apply Kd.S_alloc | apply Kd.S_drewN | apply Kd.S_drew)); exact HO_15.out⟩, ⟨by (with_reducible repeat (first | apply Kd.R_alloc | apply Kd.R_drewN | apply Kd.R_drew)); exact HO_20.out⟩, ⟨by repeat (first | (with_reducible first | exact HB.out | apply below_alloc | apply pw_below_drewN | apply below_drew1) | exact HB.out)⟩⟩
                                      case round => as_aux_lemma =>
                                        clear H'
                                        try clear c1
                                        try clear c2
                                        try clear p2
                                        try clear q2
                                        try clear hx2
                                        try clear c3
                                        try clear c4
                                        try clear c5
                                        try clear c6
                                        try clear p6
                                        try clear c9
                                        try clear c18
                                        try clear c19
                                        try clear c20
                                        try clear p20
                                        try clear q20
                                        try clear hx20
                                        try clear c21
                                        try clear c21b0
                                        try clear c21b1
                                        try clear c21b2
                                        try clear p21
                                        try clear q21
                                        try clear hx21
                                        try clear c22
                                        try clear c22b0
                                        try clear c22b1
                                        try clear c22b2
                                        try clear p22
                                        try clear q22
                                        try clear hx22
                                        try clear c29
                                        try clear c30
                                        try clear c30b0
                                        try clear c32
                                        try clear c32b0
                                        try clear c33
                                        try clear c33b0
                                        try clear c34
                                        try clear c34b0
                                        try clear c34b1
                                        try clear c35
                                        try clear c35b0
                                        try clear c36
                                        try clear c36b0
                                        try clear c42
                                        try clear c43
                                        try clear c43b0
                                        try clear c44
                                        try clear c44b0
                                        try clear c45
                                        try clear c45b0
                                        try clear c46
                                        try clear c46b0
                                        try clear c50
                                        try clear c50b0
                                        try clear c50b1
                                        try clear c52
                                        try clear c53
                                        try clear c53b0
                                        try clear c53b1
                                        try clear c54
                                        try clear c54b0
                                        try clear c54b1
                                        try clear c57
                                        try clear c57b0
                                        try clear c60
                                        try clear c60b0
                                        try clear c61
                                        try clear c61b0
                                        try clear c61b1
                                        try clear c61b2
                                        try clear c62
                                        try clear c62b0
                                        try clear c63
                                        try clear c63b0
                                        try clear c64
                                        try clear p64
                                        try clear hx205_0
                                        try clear hx206_0
                                        try clear hx207_0
                                        try clear hx208_0
                                        try clear hx209_0
                                        try clear hx210_0
                                        try clear hx211_0
                                        try clear hx212_0
                                        try clear hx218_0
                                        try clear hx219_0
                                        try clear hx220_0
                                        try clear p2
                                        try clear p20
                                        try clear p205
                                        try clear p206
                                        try clear p207
                                        try clear p208
                                        try clear p209
                                        try clear p21
                                        try clear p210
                                        try clear p211
                                        try clear p212
                                        try clear p218
                                        try clear p219
                                        try clear p22
                                        try clear p220
                                        try clear p6
                                        try clear q2
                                        try clear q20
                                        try clear q205
                                        try clear q206
                                        try clear q207
                                        try clear q208
                                        try clear q209
                                        try clear q21
                                        try clear q210
                                        try clear q211
                                        try clear q212
                                        try clear q218
                                        try clear q219
                                        try clear q22
                                        try clear q220
                                        obtain ⟨x20_6, x22_6, rfl, HA, HK6, HO_5, HO_15, HO_20, HB⟩ := hrel
                                        cases gk with
                                        | zero => exact absurd HA.out (by simp [laws_FnTurns.l2])
                                        | succ k6 =>
                                          have H := HA.out
                                          clear HA
                                          simp only [laws_FnTurns.l2] at H
                                          by_cases c65 : 0 ≤ x21_4
                                          · rw [if_pos c65] at H
                                            have c65b0 : decide (0 ≤ x21_4) = true := decide_eq_true c65
                                            clear c65
                                            by_cases c66 : x21_4 < (t200.length : Int)
                                            · rw [if_pos c66] at H
                                              have c66b0 : decide (x21_4 < (t200.length : Int)) = true := decide_eq_true c66
                                              clear c66
                                              by_cases c67 : x22_6 < ((rd_L2 t200 x21_4).length : Int)
                                              · rw [if_pos c67] at H
                                                have c67b0 : decide (x22_6 < ((rd_L2 t200 x21_4).length : Int)) = true := decide_eq_true c67
                                                clear c67
                                                by_cases c68 : 0 ≤ x22_6
                                                · rw [if_pos c68] at H
                                                  have c68b0 : decide (0 ≤ x22_6) = true := decide_eq_true c68
                                                  clear c68
                                                  by_cases c69 : (rd (rd_L2 t200 x21_4) x22_6) < 0
                                                  · rw [if_pos c69] at H
                                                    have c69b0 : decide ((rd (rd_L2 t200 x21_4) x22_6) < 0) = true := decide_eq_true c69
                                                    clear c69
                                                    obtain rfl := Option.some.inj H
                                                    have p221 : 0 ≤ (x21_4 : Int) := of_decide_eq_true (by first | (with_reducible assumption) | assumption)
                                                    have q221 : x21_4 < (t200.length : Int) := of_decide_eq_true (by first | (with_reducible assumption) | assumption)
                                                    obtain ⟨ad221, A221_0, c221_0, e221, hx221_0, hl221_0, hi221_0⟩ := at_L2 (Kd.S_reads' HO_15.out).2.2 x21_4 p221 q221
                                                    cases e221
                                                    obtain ⟨ce221, hce221, hMe221, hcc221⟩ := Kd.S_get HO_15.out [] x21_4 p221 (by first | exact q221 | exact of_decide_eq_true (by first | (with_reducible assumption) | assumption) | (have e_ := (Kd.S_reads' HO_15.out).1; omega))
                                                    obtain ⟨ve221_0, rfl, ge221_0⟩ := hMe221
                                                    have hv221_0 := hcc221 0 _ rfl
                                                    rw [Nat.add_zero, show ((Kd.slice 2 (Kd.int .i64))).sz = 1 from rfl, Nat.mul_one] at hv221_0
                                                    replace hv221_0 := Option.some.inj (hv221_0.symm.trans hx221_0)
                                                    rw [hv221_0] at ge221_0
                                                    have HL221_0 := Aside0.mk (show Kd.R (Kd.int .i64) 2 _ _ _ _ (rd_L2 t200 x21_4) from ge221_0)
                                                    clear hv221_0 ge221_0
                                                    clear hcc221 hce221
                                                    have HR221_0 := Aside0.mk hi221_0
                                                    have HC221_0 := Aside0.mk hl221_0
                                                    clear hi221_0 hl221_0
                                                    replace p221 := eq_true p221
                                                    replace q221 := eq_true q221
                                                    have p222 : 0 ≤ (x21_4 : Int) := of_decide_eq_true (by first | (with_reducible assumption) | assumption)
                                                    have q222 : x21_4 < (t200.length : Int) := of_decide_eq_true (by first | (with_reducible assumption) | assumption)
                                                    obtain ⟨ad222, A222_0, c222_0, e222, hx222_0, hl222_0, hi222_0⟩ := at_L2 (Kd.S_reads' HO_15.out).2.2 x21_4 p222 q222
                                                    obtain rfl : ad221 = ad222 := (by injection e222)
                                                    obtain ⟨ce222, hce222, hMe222, hcc222⟩ := Kd.S_get HO_15.out [] x21_4 p222 (by first | exact q222 | exact of_decide_eq_true (by first | (with_reducible assumption) | assumption) | (have e_ := (Kd.S_reads' HO_15.out).1; omega))
                                                    obtain ⟨ve222_0, rfl, ge222_0⟩ := hMe222
                                                    have hv222_0 := hcc222 0 _ rfl
                                                    rw [Nat.add_zero, show ((Kd.slice 2 (Kd.int .i64))).sz = 1 from rfl, Nat.mul_one] at hv222_0
                                                    replace hv222_0 := Option.some.inj (hv222_0.symm.trans hx222_0)
                                                    rw [hv222_0] at ge222_0
                                                    have HL222_0 := Aside0.mk (show Kd.R (Kd.int .i64) 2 _ _ _ _ (rd_L2 t200 x21_4) from ge222_0)
                                                    clear hv222_0 ge222_0
                                                    clear hcc222 hce222
                                                    have HR222_0 := Aside0.mk hi222_0
                                                    have HC222_0 := Aside0.mk hl222_0
                                                    clear hi222_0 hl222_0
                                                    replace p222 := eq_true p222
                                                    replace q222 := eq_true q222
                                                    have ea_ := Option.some.inj (hx221_0.symm.trans hx222_0)
                                                    injection ea_ with ea_ en_ ec_
                                                    subst ea_
                                                    subst ec_
                                                    clear en_
                                                    have p223 : 0 ≤ (x22_6 : Int) := of_decide_eq_true (by first | (with_reducible assumption) | assumption)
                                                    have q223 : x22_6 < ((rd_L2 t200 x21_4).length : Int) := of_decide_eq_true (by first | (with_reducible assumption) | assumption)
                                                    obtain ⟨ad223, e223, hx223_0⟩ := Kd.at_int (by repeat (first | (with_reducible exact HR222_0.out) | (with_reducible refine Kd.C_alloc ?_ _) | (with_reducible refine Kd.C_drewN ?_ _) | (with_reducible refine Kd.C_drew ?_) | exact HR222_0.out)) x22_6 p223 q223
                                                    cases e223
                                                    replace p223 := eq_true p223
                                                    replace q223 := eq_true q223
                                                    go_wp2
                                                    repeat (go_quiet (fail); try go_wp2)
                                                    go_ret
                                                    exact ⟨by first | rfl | (simp [errW_none, errW_some] <;> rfl) | (simp [*, errW_none, errW_some] <;> rfl), by repeat (first | (with_reducible first | exact HB.out | apply below_alloc | apply pw_below_drewN | apply below_drew1) | exact HB.out)⟩
                                                  · rw [if_neg c69] at H
                                                    have c69b0 : decide ((rd (rd_L2 t200 x21_4) x22_6) < 0) = false := decide_eq_false c69
                                                    clear c69
                                                    by_cases c70 : (rd (rd_L2 t200 x21_4) x22_6) ≥ (t184.length : Int)
                                                    · rw [if_pos c70] at H
                                                      have c70b0 : decide ((t184.length : Int) ≤ (rd (rd_L2 t200 x21_4) x22_6)) = true := decide_eq_true c70
                                                      clear c70
                                                      obtain rfl := Option.some.inj H
                                                      have p221 : 0 ≤ (x21_4 : Int) := of_decide_eq_true (by first | (with_reducible assumption) | assumption)
                                                      have q221 : x21_4 < (t200.length : Int) := of_decide_eq_true (by first | (with_reducible assumption) | assumption)
                                                      obtain ⟨ad221, A221_0, c221_0, e221, hx221_0, hl221_0, hi221_0⟩ := at_L2 (Kd.S_reads' HO_15.out).2.2 x21_4 p221 q221
                                                      cases e221
                                                      obtain ⟨ce221, hce221, hMe221, hcc221⟩ := Kd.S_get HO_15.out [] x21_4 p221 (by first | exact q221 | exact of_decide_eq_true (by first | (with_reducible assumption) | assumption) | (have e_ := (Kd.S_reads' HO_15.out).1; omega))
                                                      obtain ⟨ve221_0, rfl, ge221_0⟩ := hMe221
                                                      have hv221_0 := hcc221 0 _ rfl
                                                      rw [Nat.add_zero, show ((Kd.slice 2 (Kd.int .i64))).sz = 1 from rfl, Nat.mul_one] at hv221_0
                                                      replace hv221_0 := Option.some.inj (hv221_0.symm.trans hx221_0)
                                                      rw [hv221_0] at ge221_0
                                                      have HL221_0 := Aside0.mk (show Kd.R (Kd.int .i64) 2 _ _ _ _ (rd_L2 t200 x21_4) from ge221_0)
                                                      clear hv221_0 ge221_0
                                                      clear hcc221 hce221
                                                      have HR221_0 := Aside0.mk hi221_0
                                                      have HC221_0 := Aside0.mk hl221_0
                                                      clear hi221_0 hl221_0
                                                      replace p221 := eq_true p221
                                                      replace q221 := eq_true q221
                                                      have p222 : 0 ≤ (x21_4 : Int) := of_decide_eq_true (by first | (with_reducible assumption) | assumption)
                                                      have q222 : x21_4 < (t200.length : Int) := of_decide_eq_true (by first | (with_reducible assumption) | assumption)
                                                      obtain ⟨ad222, A222_0, c222_0, e222, hx222_0, hl222_0, hi222_0⟩ := at_L2 (Kd.S_reads' HO_15.out).2.2 x21_4 p222 q222
                                                      obtain rfl : ad221 = ad222 := (by injection e222)
                                                      obtain ⟨ce222, hce222, hMe222, hcc222⟩ := Kd.S_get HO_15.out [] x21_4 p222 (by first | exact q222 | exact of_decide_eq_true (by first | (with_reducible assumption) | assumption) | (have e_ := (Kd.S_reads' HO_15.out).1; omega))
                                                      obtain ⟨ve222_0, rfl, ge222_0⟩ := hMe222
                                                      have hv222_0 := hcc222 0 _ rfl
                                                      rw [Nat.add_zero, show ((Kd.slice 2 (Kd.int .i64))).sz = 1 from rfl, Nat.mul_one] at hv222_0
                                                      replace hv222_0 := Option.some.inj (hv222_0.symm.trans hx222_0)
                                                      rw [hv222_0] at ge222_0
                                                      have HL222_0 := Aside0.mk (show Kd.R (Kd.int .i64) 2 _ _ _ _ (rd_L2 t200 x21_4) from ge222_0)
                                                      clear hv222_0 ge222_0
                                                      clear hcc222 hce222
                                                      have HR222_0 := Aside0.mk hi222_0
                                                      have HC222_0 := Aside0.mk hl222_0
                                                      clear hi222_0 hl222_0
                                                      replace p222 := eq_true p222
                                                      replace q222 := eq_true q222
                                                      have ea_ := Option.some.inj (hx221_0.symm.trans hx222_0)
                                                      injection ea_ with ea_ en_ ec_
                                                      subst ea_
                                                      subst ec_
                                                      clear en_
                                                      have p223 : 0 ≤ (x22_6 : Int) := of_decide_eq_true (by first | (with_reducible assumption) | assumption)
                                                      have q223 : x22_6 < ((rd_L2 t200 x21_4).length : Int) := of_decide_eq_true (by first | (with_reducible assumption) | assumption)
                                                      obtain ⟨ad223, e223, hx223_0⟩ := Kd.at_int (by repeat (first | (with_reducible exact HR222_0.out) | (with_reducible refine Kd.C_alloc ?_ _) | (with_reducible refine Kd.C_drewN ?_ _) | (with_reducible refine Kd.C_drew ?_) | exact HR222_0.out)) x22_6 p223 q223
                                                      cases e223
                                                      replace p223 := eq_true p223
                                                      replace q223 := eq_true q223
                                                      have p224 : 0 ≤ (x21_4 : Int) := of_decide_eq_true (by first | (with_reducible assumption) | assumption)
                                                      have q224 : x21_4 < (t200.length : Int) := of_decide_eq_true (by first | (with_reducible assumption) | assumption)
                                                      obtain ⟨ad224, A224_0, c224_0, e224, hx224_0, hl224_0, hi224_0⟩ := at_L2 (Kd.S_reads' HO_15.out).2.2 x21_4 p224 q224
                                                      obtain rfl : ad221 = ad224 := (by injection e224)
                                                      obtain ⟨ce224, hce224, hMe224, hcc224⟩ := Kd.S_get HO_15.out [] x21_4 p224 (by first | exact q224 | exact of_decide_eq_true (by first | (with_reducible assumption) | assumption) | (have e_ := (Kd.S_reads' HO_15.out).1; omega))
                                                      obtain ⟨ve224_0, rfl, ge224_0⟩ := hMe224
                                                      have hv224_0 := hcc224 0 _ rfl
                                                      rw [Nat.add_zero, show ((Kd.slice 2 (Kd.int .i64))).sz = 1 from rfl, Nat.mul_one] at hv224_0
                                                      replace hv224_0 := Option.some.inj (hv224_0.symm.trans hx224_0)
                                                      rw [hv224_0] at ge224_0
                                                      have HL224_0 := Aside0.mk (show Kd.R (Kd.int .i64) 2 _ _ _ _ (rd_L2 t200 x21_4) from ge224_0)
                                                      clear hv224_0 ge224_0
                                                      clear hcc224 hce224
                                                      have HR224_0 := Aside0.mk hi224_0
                                                      have HC224_0 := Aside0.mk hl224_0
                                                      clear hi224_0 hl224_0
                                                      replace p224 := eq_true p224
                                                      replace q224 := eq_true q224
                                                      have ea_ := Option.some.inj (hx221_0.symm.trans hx224_0)
                                                      injection ea_ with ea_ en_ ec_
                                                      subst ea_
                                                      subst ec_
                                                      clear en_
                                                      have p225 : 0 ≤ (x22_6 : Int) := of_decide_eq_true (by first | (with_reducible assumption) | assumption)
                                                      have q225 : x22_6 < ((rd_L2 t200 x21_4).length : Int) := of_decide_eq_true (by first | (with_reducible assumption) | assumption)
                                                      obtain ⟨ad225, e225, hx225_0⟩ := Kd.at_int (by repeat (first | (with_reducible exact HR224_0.out) | (with_reducible refine Kd.C_alloc ?_ _) | (with_reducible refine Kd.C_drewN ?_ _) | (with_reducible refine Kd.C_drew ?_) | exact HR224_0.out)) x22_6 p225 q225
                                                      cases e225
                                                      replace p225 := eq_true p225
                                                      replace q225 := eq_true q225
                                                      go_wp2
                                                      repeat (go_quiet (fail); try go_wp2)
                                                      go_ret
                                                      exact ⟨by first | rfl | (simp [errW_none, errW_some] <;> rfl) | (simp [*, errW_none, errW_some] <;> rfl), by repeat (first | (with_reducible first | exact HB.out | apply below_alloc | apply pw_below_drewN | apply below_drew1) | exact HB.out)⟩
                                                    · rw [if_neg c70] at H
                                                      have c70b0 : decide ((t184.length : Int) ≤ (rd (rd_L2 t200 x21_4) x22_6)) = false := decide_eq_false c70
                                                      clear c70
                                                      by_cases c71 : 0 ≤ (rd (rd_L2 t200 x21_4) x22_6)
                                                      · rw [if_pos c71] at H
                                                        have c71b0 : decide (0 ≤ (rd (rd_L2 t200 x21_4) x22_6)) = true := decide_eq_true c71
                                                        clear c71
                                                        by_cases c72 : (rd (rd_L2 t200 x21_4) x22_6) < (x20_6.length : Int)
                                                        · rw [if_pos c72] at H
                                                          have c72b0 : decide ((rd (rd_L2 t200 x21_4) x22_6) < (x20_6.length : Int)) = true := decide_eq_true c72
                                                          clear c72
                                                          obtain ⟨y229, hy229⟩ : ∃ y_ : List Int, y_ = (x20_6.set ((rd (rd_L2 t200 x21_4) x22_6) : Int).toNat (wrap64 ((rd x20_6 (rd (rd_L2 t200 x21_4) x22_6)) + 1))) := ⟨_, rfl⟩
                                                          replace H : (laws_FnTurns.l2 k6 t184 (wrap64 (1 + t189)) t200 y229 x21_4 (wrap64 (x22_6 + 1))) = some r := by first | (rw [hy229]; with_reducible exact H) | (have H2_ := (Option.bind_some _ _).symm.trans H; rw [hy229]; with_reducible exact H2_) | (have H2_ := (Option.bind_some _ _).symm.trans H; with_reducible exact H2_) | with_reducible exact H | (rw [hy229]; exact H) | exact H
                                                          have Ny229 := Aside0.mk hy229
                                                          clear hy229
                                                          have H' := Aside0.mk H
                                                          clear H
                                                          have p221 : 0 ≤ (x21_4 : Int) := of_decide_eq_true (by first | (with_reducible assumption) | assumption)
                                                          have q221 : x21_4 < (t200.length : Int) := of_decide_eq_true (by first | (with_reducible assumption) | assumption)
                                                          obtain ⟨ad221, A221_0, c221_0, e221, hx221_0, hl221_0, hi221_0⟩ := at_L2 (Kd.S_reads' HO_15.out).2.2 x21_4 p221 q221
                                                          cases e221
                                                          obtain ⟨ce221, hce221, hMe221, hcc221⟩ := Kd.S_get HO_15.out [] x21_4 p221 (by first | exact q221 | exact of_decide_eq_true (by first | (with_reducible assumption) | assumption) | (have e_ := (Kd.S_reads' HO_15.out).1; omega))
                                                          obtain ⟨ve221_0, rfl, ge221_0⟩ := hMe221
                                                          have hv221_0 := hcc221 0 _ rfl
                                                          rw [Nat.add_zero, show ((Kd.slice 2 (Kd.int .i64))).sz = 1 from rfl, Nat.mul_one] at hv221_0
                                                          replace hv221_0 := Option.some.inj (hv221_0.symm.trans hx221_0)
                                                          rw [hv221_0] at ge221_0
                                                          have HL221_0 := Aside0.mk (show Kd.R (Kd.int .i64) 2 _ _ _ _ (rd_L2 t200 x21_4) from ge221_0)
                                                          clear hv221_0 ge221_0
                                                          clear hcc221 hce221
                                                          have HR221_0 := Aside0.mk hi221_0
                                                          have HC221_0 := Aside0.mk hl221_0
                                                          clear hi221_0 hl221_0
                                                          replace p221 := eq_true p221
                                                          replace q221 := eq_true q221
                                                          have p222 : 0 ≤ (x21_4 : Int) := of_decide_eq_true (by first | (with_reducible assumption) | assumption)
                                                          have q222 : x21_4 < (t200.length : Int) := of_decide_eq_true (by first | (with_reducible assumption) | assumption)
                                                          obtain ⟨ad222, A222_0, c222_0, e222, hx222_0, hl222_0, hi222_0⟩ := at_L2 (Kd.S_reads' HO_15.out).2.2 x21_4 p222 q222
                                                          obtain rfl : ad221 = ad222 := (by injection e222)
                                                          obtain ⟨ce222, hce222, hMe222, hcc222⟩ := Kd.S_get HO_15.out [] x21_4 p222 (by first | exact q222 | exact of_decide_eq_true (by first | (with_reducible assumption) | assumption) | (have e_ := (Kd.S_reads' HO_15.out).1; omega))
                                                          obtain ⟨ve222_0, rfl, ge222_0⟩ := hMe222
                                                          have hv222_0 := hcc222 0 _ rfl
                                                          rw [Nat.add_zero, show ((Kd.slice 2 (Kd.int .i64))).sz = 1 from rfl, Nat.mul_one] at hv222_0
                                                          replace hv222_0 := Option.some.inj (hv222_0.symm.trans hx222_0)
                                                          rw [hv222_0] at ge222_0
                                                          have HL222_0 := Aside0.mk (show Kd.R (Kd.int .i64) 2 _ _ _ _ (rd_L2 t200 x21_4) from ge222_0)
                                                          clear hv222_0 ge222_0
                                                          clear hcc222 hce222
                                                          have HR222_0 := Aside0.mk hi222_0
                                                          have HC222_0 := Aside0.mk hl222_0
                                                          clear hi222_0 hl222_0
                                                          replace p222 := eq_true p222
                                                          replace q222 := eq_true q222
                                                          have ea_ := Option.some.inj (hx221_0.symm.trans hx222_0)
                                                          injection ea_ with ea_ en_ ec_
                                                          subst ea_
                                                          subst ec_
                                                          clear en_
                                                          have p223 : 0 ≤ (x22_6 : Int) := of_decide_eq_true (by first | (with_reducible assumption) | assumption)
                                                          have q223 : x22_6 < ((rd_L2 t200 x21_4).length : Int) := of_decide_eq_true (by first | (with_reducible assumption) | assumption)
                                                          obtain ⟨ad223, e223, hx223_0⟩ := Kd.at_int (by repeat (first | (with_reducible exact HR222_0.out) | (with_reducible refine Kd.C_alloc ?_ _) | (with_reducible refine Kd.C_drewN ?_ _) | (with_reducible refine Kd.C_drew ?_) | exact HR222_0.out)) x22_6 p223 q223
                                                          cases e223
                                                          replace p223 := eq_true p223
                                                          replace q223 := eq_true q223
                                                          have p224 : 0 ≤ (x21_4 : Int) := of_decide_eq_true (by first | (with_reducible assumption) | assumption)
                                                          have q224 : x21_4 < (t200.length : Int) := of_decide_eq_true (by first | (with_reducible assumption) | assumption)
                                                          obtain ⟨ad224, A224_0, c224_0, e224, hx224_0, hl224_0, hi224_0⟩ := at_L2 (Kd.S_reads' HO_15.out).2.2 x21_4 p224 q224
                                                          obtain rfl : ad221 = ad224 := (by injection e224)
                                                          obtain ⟨ce224, hce224, hMe224, hcc224⟩ := Kd.S_get HO_15.out [] x21_4 p224 (by first | exact q224 | exact of_decide_eq_true (by first | (with_reducible assumption) | assumption) | (have e_ := (Kd.S_reads' HO_15.out).1; omega))
                                                          obtain ⟨ve224_0, rfl, ge224_0⟩ := hMe224
                                                          have hv224_0 := hcc224 0 _ rfl
                                                          rw [Nat.add_zero, show ((Kd.slice 2 (Kd.int .i64))).sz = 1 from rfl, Nat.mul_one] at hv224_0
                                                          replace hv224_0 := Option.some.inj (hv224_0.symm.trans hx224_0)
                                                          rw [hv224_0] at ge224_0
                                                          have HL224_0 := Aside0.mk (show Kd.R (Kd.int .i64) 2 _ _ _ _ (rd_L2 t200 x21_4) from ge224_0)
                                                          clear hv224_0 ge224_0
                                                          clear hcc224 hce224
                                                          have HR224_0 := Aside0.mk hi224_0
                                                          have HC224_0 := Aside0.mk hl224_0
                                                          clear hi224_0 hl224_0
                                                          replace p224 := eq_true p224
                                                          replace q224 := eq_true q224
                                                          have ea_ := Option.some.inj (hx221_0.symm.trans hx224_0)
                                                          injection ea_ with ea_ en_ ec_
                                                          subst ea_
                                                          subst ec_
                                                          clear en_
                                                          have p225 : 0 ≤ (x22_6 : Int) := of_decide_eq_true (by first | (with_reducible assumption) | assumption)
                                                          have q225 : x22_6 < ((rd_L2 t200 x21_4).length : Int) := of_decide_eq_true (by first | (with_reducible assumption) | assumption)
                                                          obtain ⟨ad225, e225, hx225_0⟩ := Kd.at_int (by repeat (first | (with_reducible exact HR224_0.out) | (with_reducible refine Kd.C_alloc ?_ _) | (with_reducible refine Kd.C_drewN ?_ _) | (with_reducible refine Kd.C_drew ?_) | exact HR224_0.out)) x22_6 p225 q225
                                                          cases e225
                                                          replace p225 := eq_true p225
                                                          replace q225 := eq_true q225
                                                          have p226 : 0 ≤ (x21_4 : Int) := of_decide_eq_true (by first | (with_reducible assumption) | assumption)
                                                          have q226 : x21_4 < (t200.length : Int) := of_decide_eq_true (by first | (with_reducible assumption) | assumption)
                                                          obtain ⟨ad226, A226_0, c226_0, e226, hx226_0, hl226_0, hi226_0⟩ := at_L2 (Kd.S_reads' HO_15.out).2.2 x21_4 p226 q226
                                                          obtain rfl : ad221 = ad226 := (by injection e226)
                                                          obtain ⟨ce226, hce226, hMe226, hcc226⟩ := Kd.S_get HO_15.out [] x21_4 p226 (by first | exact q226 | exact of_decide_eq_true (by first | (with_reducible assumption) | assumption) | (have e_ := (Kd.S_reads' HO_15.out).1; omega))
                                                          obtain ⟨ve226_0, rfl, ge226_0⟩ := hMe226
                                                          have hv226_0 := hcc226 0 _ rfl
                                                          rw [Nat.add_zero, show ((Kd.slice 2 (Kd.int .i64))).sz = 1 from rfl, Nat.mul_one] at hv226_0
                                                          replace hv226_0 := Option.some.inj (hv226_0.symm.trans hx226_0)
                                                          rw [hv226_0] at ge226_0
                                                          have HL226_0 := Aside0.mk (show Kd.R (Kd.int .i64) 2 _ _ _ _ (rd_L2 t200 x21_4) from ge226_0)
                                                          clear hv226_0 ge226_0
                                                          clear hcc226 hce226
                                                          have HR226_0 := Aside0.mk hi226_0
                                                          have HC226_0 := Aside0.mk hl226_0
                                                          clear hi226_0 hl226_0
                                                          replace p226 := eq_true p226
                                                          replace q226 := eq_true q226
                                                          have ea_ := Option.some.inj (hx221_0.symm.trans hx226_0)
                                                          injection ea_ with ea_ en_ ec_
                                                          subst ea_
                                                          subst ec_
                                                          clear en_
                                                          have p227 : 0 ≤ (x22_6 : Int) := of_decide_eq_true (by first | (with_reducible assumption) | assumption)
                                                          have q227 : x22_6 < ((rd_L2 t200 x21_4).length : Int) := of_decide_eq_true (by first | (with_reducible assumption) | assumption)
                                                          obtain ⟨ad227, e227, hx227_0⟩ := Kd.at_int (by repeat (first | (with_reducible exact HR226_0.out) | (with_reducible refine Kd.C_alloc ?_ _) | (with_reducible refine Kd.C_drewN ?_ _) | (with_reducible refine Kd.C_drew ?_) | exact HR226_0.out)) x22_6 p227 q227
                                                          cases e227
                                                          replace p227 := eq_true p227
                                                          replace q227 := eq_true q227
                                                          obtain ⟨Ao74, co74, eo74⟩ := Kd.R_slice HO_20.out
                                                          subst eo74
                                                          have p228 : 0 ≤ ((rd (rd_L2 t200 x21_4) x22_6) : Int) := of_decide_eq_true (by first | (with_reducible assumption) | assumption)
                                                          have q228 : (rd (rd_L2 t200 x21_4) x22_6) < (x20_6.length : Int) := of_decide_eq_true (by first | (with_reducible assumption) | assumption)
                                                          obtain ⟨ad228, e228, hx228_0⟩ := Kd.at_int (Kd.R_reads' HO_20.out).2.2 (rd (rd_L2 t200 x21_4) x22_6) p228 q228
                                                          cases e228
                                                          replace p228 := eq_true p228
                                                          replace q228 := eq_true q228
                                                          have p73 : 0 ≤ ((rd (rd_L2 t200 x21_4) x22_6) : Int) := of_decide_eq_true (by first | (with_reducible assumption) | assumption)
                                                          have q73 : ((rd (rd_L2 t200 x21_4) x22_6) : Int) < ((x20_6.length : Int) : Int) := of_decide_eq_true (by first | (with_reducible assumption) | assumption)
                                                          obtain ⟨go73, co73, eo73, gb73, gl73, cl73, HG73⟩ := Kd.R_form HO_20.out (by omega)
                                                          (first | cases eo73 | (injection eo73 with ea_ en_ ec_; (first | subst ea_ | (injection ea_ with ea_; subst ea_)); subst ec_; clear en_))
                                                          have GB73 := Aside0.mk gb73
                                                          have GG73 := Aside0.mk HG73
                                                          clear gb73 gl73 HG73
                                                          (first | simp only [add_plain] at hx228_0 | skip)
                                                          obtain ⟨hx73_0, hf73_0⟩ := Kd.R_celln 0 HO_20.out ((rd (rd_L2 t200 x21_4) x22_6) : Int) p73 q73
                                                          replace p73 := eq_true p73
                                                          replace q73 := eq_true q73
                                                          have HP75 := Kd.R_putg HO_20.out ((rd (rd_L2 t200 x21_4) x22_6) : Int) (wrap64 ((rd x20_6 (rd (rd_L2 t200 x21_4) x22_6)) + 1))
                                                          go_wp2_with (first | ((with_reducible refine gate_store (t := 2) (p := 235) rfl ?_); (try (rw [drewN_self wr]; generalize hq_ : World.drewN wr _ = wr; have n0_ := Aside0.mk (Kd.R_at hq_ HO_5.out); have n1_ := Aside0.mk (Kd.S_at hq_ HO_15.out); have n2_ := Aside0.mk (Kd.R_at hq_ HO_20.out); have n3_ := Aside0.mk (Kd.R_at hq_ HL221_0.out); have n4_ := Aside0.mk (Kd.R_at hq_ HL222_0.out); have n5_ := Aside0.mk (Kd.R_at hq_ HL224_0.out); have n6_ := Aside0.mk (Kd.R_at hq_ HL226_0.out); have n7_ := Aside0.mk (below_at hq_ HB.out); clear hq_ HO_5 HO_15 HO_20 HL221_0 HL222_0 HL224_0 HL226_0 HB; have HO_5 := n0_; have HO_15 := n1_; have HO_20 := n2_; have HL221_0 := n3_; have HL222_0 := n4_; have HL224_0 := n5_; have HL226_0 := n6_; have HB := n7_; clear n0_ n1_ n2_ n3_ n4_ n5_ n6_ n7_; (try (have HP75 := Kd.R_putg HO_20.out ((rd (rd_L2 t200 x21_4) x22_6) : Int) (wrap64 ((rd x20_6 (rd (rd_L2 t200 x21_4) x22_6)) + 1)))))); refine store_event (t := 2) (p := 235) (v := ?vo_w76) (w1 := (wr.setCell ⟨go73, ((rd (rd_L2 t200 x21_4) x22_6) : Int).toNat, none⟩ (.int .i64 (wrap64 ((rd x20_6 (rd (rd_L2 t200 x21_4) x22_6)) + 1))))) ?hg ?ho ?hn ?hr ?_; (case ho => rfl); (case hg => rfl); (case hn => rfl); (case hr => first | (go_simp; done) | (go_simp; rfl)); intro w76 hw; have hg : wr.grownBy w76 (some go73) := (by rw [hw]; exact HP75.2); have hp_ : Kd.R (Kd.int .i64) 2 w76 w.heap.size (fun k_ => some k_ ≠ (.slice Ao14 t184.length co14 : Value).ownBlock) (.slice (some ⟨go73, 0, none⟩) x20_6.length co74) y229 := (by rw [hw, Ny229.out]; exact HP75.1); clear HP75; have n0_ := Aside0.mk (Kd.R_after (v := (.slice (some ⟨go73, 0, none⟩) x20_6.length co74)) (v1 := (.slice (some ⟨go73, 0, none⟩) x20_6.length co74)) (ok := (fun _ => True)) (by (with_reducible repeat (first | apply Kd.R_alloc | apply Kd.R_drewN | apply Kd.R_drew)); exact Kd.R_mono HO_5.out (fun _ hk => ⟨trivial, hk⟩)) hg (.inl rfl)); have n1_ := Aside0.mk (Kd.S_after (v := (.slice (some ⟨go73, 0, none⟩) x20_6.length co74)) (v1 := (.slice (some ⟨go73, 0, none⟩) x20_6.length co74)) (ok := (fun k_ => some k_ ≠ (.slice Ao14 t184.length co14 : Value).ownBlock)) (by (with_reducible repeat (first | apply Kd.S_alloc | apply Kd.S_drewN | apply Kd.S_drew)); exact HO_15.out) hg (.inl rfl)); have n2_ := Aside0.mk (hp_); have n3_ := Aside0.mk (Kd.R_after (v := (.slice (some ⟨go73, 0, none⟩) x20_6.length co74)) (v1 := (.slice (some ⟨go73, 0, none⟩) x20_6.length co74)) (ok := (fun k_ => some k_ ≠ (.slice Ao14 t184.length co14 : Value).ownBlock ∧ some k_ ≠ (.slice (some ad221) t200.length co59 : Value).ownBlock)) (by (with_reducible repeat (first | apply Kd.R_alloc | apply Kd.R_drewN | apply Kd.R_drew)); exact Kd.R_mono HL221_0.out (fun _ hk => ⟨⟨hk.1.1, hk.2⟩, hk.1.2⟩)) hg (.inl rfl)); have n4_ := Aside0.mk (Kd.R_after (v := (.slice (some ⟨go73, 0, none⟩) x20_6.length co74)) (v1 := (.slice (some ⟨go73, 0, none⟩) x20_6.length co74)) (ok := (fun k_ => some k_ ≠ (.slice Ao14 t184.length co14 : Value).ownBlock ∧ some k_ ≠ (.slice (some ad221) t200.length co59 : Value).ownBlock)) (by (with_reducible repeat (first | apply Kd.R_alloc | apply Kd.R_drewN | apply Kd.R_drew)); exact Kd.R_mono HL222_0.out (fun _ hk => ⟨⟨hk.1.1, hk.2⟩, hk.1.2⟩)) hg (.inl rfl)); have n5_ := Aside0.mk (Kd.R_after (v := (.slice (some ⟨go73, 0, none⟩) x20_6.length co74)) (v1 := (.slice (some ⟨go73, 0, none⟩) x20_6.length co74)) (ok := (fun k_ => some k_ ≠ (.slice Ao14 t184.length co14 : Value).ownBlock ∧ some k_ ≠ (.slice (some ad221) t200.length co59 : Value).ownBlock)) (by (with_reducible repeat (first | apply Kd.R_alloc | apply Kd.R_drewN | apply Kd.R_drew)); exact Kd.R_mono HL224_0.out (fun _ hk => ⟨⟨hk.1.1, hk.2⟩, hk.1.2⟩)) hg (.inl rfl)); have n6_ := Aside0.mk (Kd.R_after (v := (.slice (some ⟨go73, 0, none⟩) x20_6.length co74)) (v1 := (.slice (some ⟨go73, 0, none⟩) x20_6.length co74)) (ok := (fun k_ => some k_ ≠ (.slice Ao14 t184.length co14 : Value).ownBlock ∧ some k_ ≠ (.slice (some ad221) t200.length co59 : Value).ownBlock)) (by (with_reducible repeat (first | apply Kd.R_alloc | apply Kd.R_drewN | apply Kd.R_drew)); exact Kd.R_mono HL226_0.out (fun _ hk => ⟨⟨hk.1.1, hk.2⟩, hk.1.2⟩)) hg (.inl rfl)); have n7_ := Aside0.mk ((by rw [hw]; exact below_set (HB.out) GB73.out : Below w.heap.size w w76)); clear HO_5; clear HO_15; clear HO_20; clear HL221_0; clear HL222_0; clear HL224_0; clear HL226_0; clear HB; have HO_5 := n0_; have HO_15 := n1_; have HO_20 := n2_; have HL221_0 := n3_; have HL222_0 := n4_; have HL224_0 := n5_; have HL226_0 := n6_; have HB := n7_; clear n0_ n1_ n2_ n3_ n4_ n5_ n6_ n7_; clear hg hw hp_))
                                                          repeat (go_quiet (first | ((with_reducible refine gate_store (t := 2) (p := 235) rfl ?_); (try (rw [drewN_self wr]; generalize hq_ : World.drewN wr _ = wr; have n0_ := Aside0.mk (Kd.R_at hq_ HO_5.out); have n1_ := Aside0.mk (Kd.S_at hq_ HO_15.out); have n2_ := Aside0.mk (Kd.R_at hq_ HO_20.out); have n3_ := Aside0.mk (Kd.R_at hq_ HL221_0.out); have n4_ := Aside0.mk (Kd.R_at hq_ HL222_0.out); have n5_ := Aside0.mk (Kd.R_at hq_ HL224_0.out); have n6_ := Aside0.mk (Kd.R_at hq_ HL226_0.out); have n7_ := Aside0.mk (below_at hq_ HB.out); clear hq_ HO_5 HO_15 HO_20 HL221_0 HL222_0 HL224_0 HL226_0 HB; have HO_5 := n0_; have HO_15 := n1_; have HO_20 := n2_; have HL221_0 := n3_; have HL222_0 := n4_; have HL224_0 := n5_; have HL226_0 := n6_; have HB := n7_; clear n0_ n1_ n2_ n3_ n4_ n5_ n6_ n7_; (try (have HP75 := Kd.R_putg HO_20.out ((rd (rd_L2 t200 x21_4) x22_6) : Int) (wrap64 ((rd x20_6 (rd (rd_L2 t200 x21_4) x22_6)) + 1)))))); refine store_event (t := 2) (p := 235) (v := ?vo_w76) (w1 := (wr.setCell ⟨go73, ((rd (rd_L2 t200 x21_4) x22_6) : Int).toNat, none⟩ (.int .i64 (wrap64 ((rd x20_6 (rd (rd_L2 t200 x21_4) x22_6)) + 1))))) ?hg ?ho ?hn ?hr ?_; (case ho => rfl); (case hg => rfl); (case hn => rfl); (case hr => first | (go_simp; done) | (go_simp; rfl)); intro w76 hw; have hg : wr.grownBy w76 (some go73) := (by rw [hw]; exact HP75.2); have hp_ : Kd.R (Kd.int .i64) 2 w76 w.heap.size (fun k_ => some k_ ≠ (.slice Ao14 t184.length co14 : Value).ownBlock) (.slice (some ⟨go73, 0, none⟩) x20_6.length co74) y229 := (by rw [hw, Ny229.out]; exact HP75.1); clear HP75; have n0_ := Aside0.mk (Kd.R_after (v := (.slice (some ⟨go73, 0, none⟩) x20_6.length co74)) (v1 := (.slice (some ⟨go73, 0, none⟩) x20_6.length co74)) (ok := (fun _ => True)) (by (with_reducible repeat (first | apply Kd.R_alloc | apply Kd.R_drewN | apply Kd.R_drew)); exact Kd.R_mono HO_5.out (fun _ hk => ⟨trivial, hk⟩)) hg (.inl rfl)); have n1_ := Aside0.mk (Kd.S_after (v := (.slice (some ⟨go73, 0, none⟩) x20_6.length co74)) (v1 := (.slice (some ⟨go73, 0, none⟩) x20_6.length co74)) (ok := (fun k_ => some k_ ≠ (.slice Ao14 t184.length co14 : Value).ownBlock)) (by (with_reducible repeat (first | apply Kd.S_alloc | apply Kd.S_drewN | apply Kd.S_drew)); exact HO_15.out) hg (.inl rfl)); have n2_ := Aside0.mk (hp_); have n3_ := Aside0.mk (Kd.R_after (v := (.slice (some ⟨go73, 0, none⟩) x20_6.length co74)) (v1 := (.slice (some ⟨go73, 0, none⟩) x20_6.length co74)) (ok := (fun k_ => some k_ ≠ (.slice Ao14 t184.length co14 : Value).ownBlock ∧ some k_ ≠ (.slice (some ad221) t200.length co59 : Value).ownBlock)) (by (with_reducible repeat (first | apply Kd.R_alloc | apply Kd.R_drewN | apply Kd.R_drew)); exact Kd.R_mono HL221_0.out (fun _ hk => ⟨⟨hk.1.1, hk.2⟩, hk.1.2⟩)) hg (.inl rfl)); have n4_ := Aside0.mk (Kd.R_after (v := (.slice (some ⟨go73, 0, none⟩) x20_6.length co74)) (v1 := (.slice (some ⟨go73, 0, none⟩) x20_6.length co74)) (ok := (fun k_ => some k_ ≠ (.slice Ao14 t184.length co14 : Value).ownBlock ∧ some k_ ≠ (.slice (some ad221) t200.length co59 : Value).ownBlock)) (by (with_reducible repeat (first | apply Kd.R_alloc | apply Kd.R_drewN | apply Kd.R_drew)); exact Kd.R_mono HL222_0.out (fun _ hk => ⟨⟨hk.1.1, hk.2⟩, hk.1.2⟩)) hg (.inl rfl)); have n5_ := Aside0.mk (Kd.R_after (v := (.slice (some ⟨go73, 0, none⟩) x20_6.length co74)) (v1 := (.slice (some ⟨go73, 0, none⟩) x20_6.length co74)) (ok := (fun k_ => some k_ ≠ (.slice Ao14 t184.length co14 : Value).ownBlock ∧ some k_ ≠ (.slice (some ad221) t200.length co59 : Value).ownBlock)) (by (with_reducible repeat (first | apply Kd.R_alloc | apply Kd.R_drewN | apply Kd.R_drew)); exact Kd.R_mono HL224_0.out (fun _ hk => ⟨⟨hk.1.1, hk.2⟩, hk.1.2⟩)) hg (.inl rfl)); have n6_ := Aside0.mk (Kd.R_after (v := (.slice (some ⟨go73, 0, none⟩) x20_6.length co74)) (v1 := (.slice (some ⟨go73, 0, none⟩) x20_6.length co74)) (ok := (fun k_ => some k_ ≠ (.slice Ao14 t184.length co14 : Value).ownBlock ∧ some k_ ≠ (.slice (some ad221) t200.length co59 : Value).ownBlock)) (by (with_reducible repeat (first | apply Kd.R_alloc | apply Kd.R_drewN | apply Kd.R_drew)); exact Kd.R_mono HL226_0.out (fun _ hk => ⟨⟨hk.1.1, hk.2⟩, hk.1.2⟩)) hg (.inl rfl)); have n7_ := Aside0.mk ((by rw [hw]; exact below_set (HB.out) GB73.out : Below w.heap.size w w76)); clear HO_5; clear HO_15; clear HO_20; clear HL221_0; clear HL222_0; clear HL224_0; clear HL226_0; clear HB; have HO_5 := n0_; have HO_15 := n1_; have HO_20 := n2_; have HL221_0 := n3_; have HL222_0 := n4_; have HL224_0 := n5_; have HL226_0 := n6_; have HB := n7_; clear n0_ n1_ n2_ n3_ n4_ n5_ n6_ n7_; clear hg hw hp_)); try go_wp2_with (first | ((with_reducible refine gate_store (t := 2) (p := 235) rfl ?_); (try (rw [drewN_self wr]; generalize hq_ : World.drewN wr _ = wr; have n0_ := Aside0.mk (Kd.R_at hq_ HO_5.out); have n1_ := Aside0.mk (Kd.S_at hq_ HO_15.out); have n2_ := Aside0.mk (Kd.R_at hq_ HO_20.out); have n3_ := Aside0.mk (Kd.R_at hq_ HL221_0.out); have n4_ := Aside0.mk (Kd.R_at hq_ HL222_0.out); have n5_ := Aside0.mk (Kd.R_at hq_ HL224_0.out); have n6_ := Aside0.mk (Kd.R_at hq_ HL226_0.out); have n7_ := Aside0.mk (below_at hq_ HB.out); clear hq_ HO_5 HO_15 HO_20 HL221_0 HL222_0 HL224_0 HL226_0 HB; have HO_5 := n0_; have HO_15 := n1_; have HO_20 := n2_; have HL221_0 := n3_; have HL222_0 := n4_; have HL224_0 := n5_; have HL226_0 := n6_; have HB := n7_; clear n0_ n1_ n2_ n3_ n4_ n5_ n6_ n7_; (try (have HP75 := Kd.R_putg HO_20.out ((rd (rd_L2 t200 x21_4) x22_6) : Int) (wrap64 ((rd x20_6 (rd (rd_L2 t200 x21_4) x22_6)) + 1)))))); refine store_event (t := 2) (p := 235) (v := ?vo_w76) (w1 := (wr.setCell ⟨go73, ((rd (rd_L2 t200 x21_4) x22_6) : Int).toNat, none⟩ (.int .i64 (wrap64 ((rd x20_6 (rd (rd_L2 t200 x21_4) x22_6)) + 1))))) ?hg ?ho ?hn ?hr ?_; (case ho => rfl); (case hg => rfl); (case hn => rfl); (case hr => first | (go_simp; done) | (go_simp; rfl)); intro w76 hw; have hg : wr.grownBy w76 (some go73) := (by rw [hw]; exact HP75.2); have hp_ : Kd.R (Kd.int .i64) 2 w76 w.heap.size (fun k_ => some k_ ≠ (.slice Ao14 t184.length co14 : Value).ownBlock) (.slice (some ⟨go73, 0, none⟩) x20_6.length co74) y229 := (by rw [hw, Ny229.out]; exact HP75.1); clear HP75; have n0_ := Aside0.mk (Kd.R_after (v := (.slice (some ⟨go73, 0, none⟩) x20_6.length co74)) (v1 := (.slice (some ⟨go73, 0, none⟩) x20_6.length co74)) (ok := (fun _ => True)) (by (with_reducible repeat (first | apply Kd.R_alloc | apply Kd.R_drewN | apply Kd.R_drew)); exact Kd.R_mono HO_5.out (fun _ hk => ⟨trivial, hk⟩)) hg (.inl rfl)); have n1_ := Aside0.mk (Kd.S_after (v := (.slice (some ⟨go73, 0, none⟩) x20_6.length co74)) (v1 := (.slice (some ⟨go73, 0, none⟩) x20_6.length co74)) (ok := (fun k_ => some k_ ≠ (.slice Ao14 t184.length co14 : Value).ownBlock)) (by (with_reducible repeat (first | apply Kd.S_alloc | apply Kd.S_drewN | apply Kd.S_drew)); exact HO_15.out) hg (.inl rfl)); have n2_ := Aside0.mk (hp_); have n3_ := Aside0.mk (Kd.R_after (v := (.slice (some ⟨go73, 0, none⟩) x20_6.length co74)) (v1 := (.slice (some ⟨go73, 0, none⟩) x20_6.length co74)) (ok := (fun k_ => some k_ ≠ (.slice Ao14 t184.length co14 : Value).ownBlock ∧ some k_ ≠ (.slice (some ad221) t200.length co59 : Value).ownBlock)) (by (with_reducible repeat (first | apply Kd.R_alloc | apply Kd.R_drewN | apply Kd.R_drew)); exact Kd.R_mono HL221_0.out (fun _ hk => ⟨⟨hk.1.1, hk.2⟩, hk.1.2⟩)) hg (.inl rfl)); have n4_ := Aside0.mk (Kd.R_after (v := (.slice (some ⟨go73, 0, none⟩) x20_6.length co74)) (v1 := (.slice (some ⟨go73, 0, none⟩) x20_6.length co74)) (ok := (fun k_ => some k_ ≠ (.slice Ao14 t184.length co14 : Value).ownBlock ∧ some k_ ≠ (.slice (some ad221) t200.length co59 : Value).ownBlock)) (by (with_reducible repeat (first | apply Kd.R_alloc | apply Kd.R_drewN | apply Kd.R_drew)); exact Kd.R_mono HL222_0.out (fun _ hk => ⟨⟨hk.1.1, hk.2⟩, hk.1.2⟩)) hg (.inl rfl)); have n5_ := Aside0.mk (Kd.R_after (v := (.slice (some ⟨go73, 0, none⟩) x20_6.length co74)) (v1 := (.slice (some ⟨go73, 0, none⟩) x20_6.length co74)) (ok := (fun k_ => some k_ ≠ (.slice Ao14 t184.length co14 : Value).ownBlock ∧ some k_ ≠ (.slice (some ad221) t200.length co59 : Value).ownBlock)) (by (with_reducible repeat (first | apply Kd.R_alloc | apply Kd.R_drewN | apply Kd.R_drew)); exact Kd.R_mono HL224_0.out (fun _ hk => ⟨⟨hk.1.1, hk.2⟩, hk.1.2⟩)) hg (.inl rfl)); have n6_ := Aside0.mk (Kd.R_after (v := (.slice (some ⟨go73, 0, none⟩) x20_6.length co74)) (v1 := (.slice (some ⟨go73, 0, none⟩) x20_6.length co74)) (ok := (fun k_ => some k_ ≠ (.slice Ao14 t184.length co14 : Value).ownBlock ∧ some k_ ≠ (.slice (some ad221) t200.length co59 : Value).ownBlock)) (by (with_reducible repeat (first | apply Kd.R_alloc | apply Kd.R_drewN | apply Kd.R_drew)); exact Kd.R_mono HL226_0.out (fun _ hk => ⟨⟨hk.1.1, hk.2⟩, hk.1.2⟩)) hg (.inl rfl)); have n7_ := Aside0.mk ((by rw [hw]; exact below_set (HB.out) GB73.out : Below w.heap.size w w76)); clear HO_5; clear HO_15; clear HO_20; clear HL221_0; clear HL222_0; clear HL224_0; clear HL226_0; clear HB; have HO_5 := n0_; have HO_15 := n1_; have HO_20 := n2_; have HL221_0 := n3_; have HL222_0 := n4_; have HL224_0 := n5_; have HL226_0 := n6_; have HB := n7_; clear n0_ n1_ n2_ n3_ n4_ n5_ n6_ n7_; clear hg hw hp_)))
                                                          go_roundg k6
                                                          case measure => have := HJ11.out; have := HK2.out; have := HJ48.out; have := HK4.out; have := HJ57.out; have := HK6.out; omega
                                                          case rel => exact ⟨(y229), (wrap64 (x22_6 + 1)), (by first | rfl | (simp; done) | (simp [*]; done)), H', ⟨by have := HJ11.out; have := HK2.out; have := HJ48.out; have := HK4.out; have := HJ57.out; have := HK6.out; omega⟩, ⟨by (with_reducible repeat (first | apply Kd.R_alloc | apply Kd.R_drewN | apply Kd.R_drew)); exact Kd.R_mono HO_5.out (fun _ hk => hk.2)⟩, ⟨by (with_reducible repeat (first | apply Kd.S_alloc | apply Kd.S_drewN | apply Kd.S_drew)); exact HO_15.out⟩, ⟨by (with_reducible repeat (first | apply Kd.R_alloc | apply Kd.R_drewN | apply Kd.R_drew)); exact HO_20.out⟩, ⟨by repeat (first | (with_reducible first | exact HB.out | apply below_alloc | apply pw_below_drewN | apply below_drew1) | exact HB.out)⟩⟩
                                                        · rw [if_neg c72] at H
                                                          exact absurd H (by simp)
                                                      · rw [if_neg c71] at H
                                                        exact absurd H (by simp)
                                                · rw [if_neg c68] at H
                                                  exact absurd H (by simp)
                                              · rw [if_neg c67] at H
                                                have c67b0 : decide (x22_6 < ((rd_L2 t200 x21_4).length : Int)) = false := decide_eq_false c67
                                                clear c67
                                                have H' := Aside0.mk H
                                                clear H
                                                have p221 : 0 ≤ (x21_4 : Int) := of_decide_eq_true (by first | (with_reducible assumption) | assumption)
                                                have q221 : x21_4 < (t200.length : Int) := of_decide_eq_true (by first | (with_reducible assumption) | assumption)
                                                obtain ⟨ad221, A221_0, c221_0, e221, hx221_0, hl221_0, hi221_0⟩ := at_L2 (Kd.S_reads' HO_15.out).2.2 x21_4 p221 q221
                                                cases e221
                                                obtain ⟨ce221, hce221, hMe221, hcc221⟩ := Kd.S_get HO_15.out [] x21_4 p221 (by first | exact q221 | exact of_decide_eq_true (by first | (with_reducible assumption) | assumption) | (have e_ := (Kd.S_reads' HO_15.out).1; omega))
                                                obtain ⟨ve221_0, rfl, ge221_0⟩ := hMe221
                                                have hv221_0 := hcc221 0 _ rfl
                                                rw [Nat.add_zero, show ((Kd.slice 2 (Kd.int .i64))).sz = 1 from rfl, Nat.mul_one] at hv221_0
                                                replace hv221_0 := Option.some.inj (hv221_0.symm.trans hx221_0)
                                                rw [hv221_0] at ge221_0
                                                have HL221_0 := Aside0.mk (show Kd.R (Kd.int .i64) 2 _ _ _ _ (rd_L2 t200 x21_4) from ge221_0)
                                                clear hv221_0 ge221_0
                                                clear hcc221 hce221
                                                have HR221_0 := Aside0.mk hi221_0
                                                have HC221_0 := Aside0.mk hl221_0
                                                clear hi221_0 hl221_0
                                                replace p221 := eq_true p221
                                                replace q221 := eq_true q221
                                                go_wp2
                                                repeat (go_quiet (fail); try go_wp2)
                                                go_roundg k6
                                                case measure => have := HJ11.out; have := HK2.out; have := HJ48.out; have := HK4.out; have := HJ57.out; have := HK6.out; omega
                                                case rel => exact ⟨(x20_6), (wrap64 (x21_4 + 1)), (by first | rfl | (simp; done) | (simp [*]; done)), H', ⟨by have := HJ11.out; have := HK2.out; have := HJ48.out; have := HK4.out; have := HJ57.out; have := HK6.out; omega⟩, ⟨by (with_reducible repeat (first | apply Kd.R_alloc | apply Kd.R_drewN | apply Kd.R_drew)); exact HO_5.out⟩, ⟨by (with_reducible repeat (first | apply Kd.S_alloc | apply Kd.S_drewN | apply Kd.S_drew)); exact HO_15.out⟩, ⟨by (with_reducible repeat (first | apply Kd.R_alloc | apply Kd.R_drewN | apply Kd.R_drew)); exact HO_20.out⟩, ⟨by repeat (first | (with_reducible first | exact HB.out | apply below_alloc | apply pw_below_drewN | apply below_drew1) | exact HB.out)⟩⟩
                                            · rw [if_neg c66] at H
                                              exact absurd H (by simp)
                                          · rw [if_neg c65] at H
                                            exact absurd H (by simp)
                              · rw [if_neg c57] at H
                                have c57b0 : decide (x21_4 < (t200.length : Int)) = false := decide_eq_false c57
                                clear c57
                                replace H := Option.bind_eq_some_iff.mp H
                                obtain ⟨t217, A770, H⟩ := H
                                replace H : (some t217) = some r := H
                                have A77 := Aside0.mk A770
                                clear A770
                                obtain rfl := Option.some.inj H
                                obtain ⟨Ao78, co78, eo78⟩ := Kd.S_slice HO_15.out
                                subst eo78
                                obtain ⟨Ao79, co79, eo79⟩ := Kd.R_slice HO_20.out
                                subst eo79
                                go_wp2_with (first | (go_at_call 37; (with_reducible refine (laws_b10Nums.calls k4 _ _ x20_4 _ _ t184 t217 _ ?side1 ?side2 ?side3 ?side4 A77.out).mono ?_); (case side1 => repeat (first | exact (Kd.R_reads' HO_20.out).2.2 | (with_reducible refine Kd.C_alloc ?_ _) | (with_reducible refine Kd.C_drewN ?_ _) | (with_reducible refine Kd.C_drew ?_))); (case side2 => exact (Kd.R_reads' HO_20.out).2.1); (case side3 => repeat (first | exact (Kd.R_reads' HO_5.out).2.2 | (with_reducible refine Kd.C_alloc ?_ _) | (with_reducible refine Kd.C_drewN ?_ _) | (with_reducible refine Kd.C_drew ?_))); (case side4 => exact (Kd.R_reads' HO_5.out).2.1); rintro e w' ⟨rfl, ⟨nd, rfl⟩⟩; (try first | exact ⟨rfl, _, World.drewN_drewN _ _ _⟩ | exact ⟨rfl, _, Eq.trans (World.drewN_drewN _ _ _) (congrArg (World.drewN _) (Nat.add_assoc _ _ _))⟩)))
                                repeat (go_quiet (first | (go_at_call 37; (with_reducible refine (laws_b10Nums.calls k4 _ _ x20_4 _ _ t184 t217 _ ?side1 ?side2 ?side3 ?side4 A77.out).mono ?_); (case side1 => repeat (first | exact (Kd.R_reads' HO_20.out).2.2 | (with_reducible refine Kd.C_alloc ?_ _) | (with_reducible refine Kd.C_drewN ?_ _) | (with_reducible refine Kd.C_drew ?_))); (case side2 => exact (Kd.R_reads' HO_20.out).2.1); (case side3 => repeat (first | exact (Kd.R_reads' HO_5.out).2.2 | (with_reducible refine Kd.C_alloc ?_ _) | (with_reducible refine Kd.C_drewN ?_ _) | (with_reducible refine Kd.C_drew ?_))); (case side4 => exact (Kd.R_reads' HO_5.out).2.1); rintro e w' ⟨rfl, ⟨nd, rfl⟩⟩; (try first | exact ⟨rfl, _, World.drewN_drewN _ _ _⟩ | exact ⟨rfl, _, Eq.trans (World.drewN_drewN _ _ _) (congrArg (World.drewN _) (Nat.add_assoc _ _ _))⟩))); try go_wp2_with (first | (go_at_call 37; (with_reducible refine (laws_b10Nums.calls k4 _ _ x20_4 _ _ t184 t217 _ ?side1 ?side2 ?side3 ?side4 A77.out).mono ?_); (case side1 => repeat (first | exact (Kd.R_reads' HO_20.out).2.2 | (with_reducible refine Kd.C_alloc ?_ _) | (with_reducible refine Kd.C_drewN ?_ _) | (with_reducible refine Kd.C_drew ?_))); (case side2 => exact (Kd.R_reads' HO_20.out).2.1); (case side3 => repeat (first | exact (Kd.R_reads' HO_5.out).2.2 | (with_reducible refine Kd.C_alloc ?_ _) | (with_reducible refine Kd.C_drewN ?_ _) | (with_reducible refine Kd.C_drew ?_))); (case side4 => exact (Kd.R_reads' HO_5.out).2.1); rintro e w' ⟨rfl, ⟨nd, rfl⟩⟩; (try first | exact ⟨rfl, _, World.drewN_drewN _ _ _⟩ | exact ⟨rfl, _, Eq.trans (World.drewN_drewN _ _ _) (congrArg (World.drewN _) (Nat.add_assoc _ _ _))⟩))))
                                go_ret
                                exact ⟨by first | rfl | (simp [errW_none, errW_some] <;> rfl) | (simp [*, errW_none, errW_some] <;> rfl), by repeat (first | (with_reducible first | exact HB.out | apply below_alloc | apply pw_below_drewN | apply below_drew1) | exact HB.out)⟩
                        · rw [if_neg c54] at H
                          exact absurd H (by simp)
                      · rw [if_neg c53] at H
                        exact absurd H (by simp)

/-- THE ONE PURE STATEMENT of laws_FnTurns: yours. -/
def laws_FnTurns.Pure : Prop := ∀ (l0 : List Int) (l1 : List Int), l0.length ≤ maxLen → l0.length * 1 ≤ 140737488351232 → (∀ x ∈ l0, (Lit.int .u8 x).wf = true) → l1.length ≤ maxLen → l1.length * 1 ≤ 140737488351232 → (∀ x ∈ l1, (Lit.int .u8 x).wf = true) → ∃ k, laws_FnTurns.f k l0 l1 = some true
theorem laws_FnTurns.walk (P : laws_FnTurns.Pure) (a0 : Option Addr) (len0 cap0 : Nat) (z0 : List Int) (a1 : Option Addr) (len1 cap1 : Nat) (z1 : List Int) (w : World) (w0 : (a0 = none ∧ len0 = 0 ∧ cap0 = 0 ∧ z0 = []) ∨ ∃ x, a0 = some x ∧ len0 ≤ cap0 ∧ cap0 ≤ maxLen ∧ z0.length = cap0 ∧ (∀ i, i < z0.length → w.cell? (x.add i) = some (.int .u8 (z0.getD i 0))) ∧ ∀ n ∈ z0, (Lit.int .u8 n).wf = true) (y0 : len0 * 1 ≤ 140737488351232) (w1 : (a1 = none ∧ len1 = 0 ∧ cap1 = 0 ∧ z1 = []) ∨ ∃ x, a1 = some x ∧ len1 ≤ cap1 ∧ cap1 ≤ maxLen ∧ z1.length = cap1 ∧ (∀ i, i < z1.length → w.cell? (x.add i) = some (.int .u8 (z1.getD i 0))) ∧ ∀ n ∈ z1, (Lit.int .u8 n).wf = true) (y1 : len1 * 1 ≤ 140737488351232) :
    Calls Try.prog 9 #[.slice a0 len0 cap0, .slice a1 len1 cap1] w fun e w' => e = .returned (.bool true) ∧ Below w.heap.size w w' := by
  obtain ⟨l0, rfl, hr0, hm0, hw0, hc0⟩ := ReadsInt.ofRowC w0
  obtain ⟨l1, rfl, hr1, hm1, hw1, hc1⟩ := ReadsInt.ofRowC w1
  obtain ⟨k, h⟩ := P l0 l1 hm0 y0 hw0 hm1 y1 hw1
  refine (laws_FnTurns.calls k _ _ l0 _ _ l1 true w (Kd.C_of_reads (d := (0 : Int)) (h1 := fun _ => rfl) hr0) hc0 (Kd.C_of_reads (d := (0 : Int)) (h1 := fun _ => rfl) hr1) hc1 h).mono ?_
  rintro e w' ⟨rfl, hd⟩
  exact ⟨rfl, hd⟩

end Go.Proofs.Ytbgiddnffchnpaa.QFnTurns
