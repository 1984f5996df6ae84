/- For every number the program's ShortestMissed answers what the reference's does. -/
import Derived.Test.YthaafdeicgbajaaDoorQFnExactShortestMissedx1
import Derived.Test.YthaafdeicgbajaaDoorBase
import Derived.Test.YthaafdeicgbajaaDoorPoly
namespace Go.Proofs.YthaafdeicgbajaaDoor.Pure
open Go.RowKit Go.Proofs.YthaafdeicgbajaaDoor.QFnExactShortestMissed Go.Proofs.YthaafdeicgbajaaDoor.Base Go.Proofs.YthaafdeicgbajaaDoorW.PrintWords Go.Proofs.YthaafdeicgbajaaDoorW.PrintLast Go.Proofs.YthaafdeicgbajaaDoorW.PrintMore
open Go.Proofs.YthaafdeicgbajaaDoor.Poly
set_option linter.unusedVariables false
set_option linter.unusedSimpArgs false

/-! within -/
theorem within_eq (a b c : Int) : impl_within.f a b c = some (decide (b ≤ a ∧ a ≤ c)) := by
  unfold impl_within.f
  by_cases h : b ≤ a
  · simp [h, ge_iff_le]
  · simp [h, ge_iff_le]

/-! l00In -/
theorem l00In_eq (a b c : Int) : spec_l00In.f a b c = some (decide (b ≤ a ∧ a ≤ c)) := by
  unfold spec_l00In.f
  by_cases h : b ≤ a
  · simp [h, ge_iff_le]
  · simp [h, ge_iff_le]

/-! degree -/
theorem IsCheck_eq (p : Int) : impl_IsCheck.f p = some (decide (2 ≤ p ∧ p ≤ 131071)) := by
  unfold impl_IsCheck.f
  rw [within_eq]; rfl
theorem l08Check_eq (p : Int) : spec_l08Check.f p = some (decide (2 ≤ p ∧ p ≤ 131071)) := by
  unfold spec_l08Check.f
  rw [l00In_eq]; rfl
theorem p_lt64 {p : Nat} (h : p ≤ 131071) : p < 2 ^ 64 := Nat.lt_of_le_of_lt h (by decide)
theorem deg16 {p : Nat} (h1 : 2 ≤ p) (h2 : p ≤ 131071) : deg p ≤ 16 := deg_le (by omega) (p_lt64 h2) (Nat.lt_of_le_of_lt h2 (by decide))
theorem pow16 {p : Nat} (h1 : 2 ≤ p) (h2 : p ≤ 131071) : 2 ^ deg p ≤ 65536 := by
  have := Nat.pow_le_pow_right (show 0 < 2 by decide) (deg16 h1 h2)
  simpa using this
theorem degree_eq {p : Nat} (h1 : 2 ≤ p) (h2 : p ≤ 131071) : impl_degree.f (p : Int) = some (deg p : Int) := by
  unfold impl_degree.f bits_Len64.f
  rw [u64_nat (show p < 2 ^ 63 by exact Nat.lt_of_le_of_lt h2 (by decide)), if_pos ⟨by omega, by omega⟩, Option.bind_some, Int.toNat_natCast, bitLen_deg (by omega) (p_lt64 h2)]
  have := deg16 h1 h2
  rw [w64 (by omega) (by omega)]
  congr 1; omega
theorem l08Degree_l0 : ∀ (f X n : Nat), 1 ≤ X → X < 2 ^ f → n + f ≤ 1000 → Ev (fun k => spec_l08Degree.l0 k (X : Int) (n : Int)) ((n + dg f X : Nat) : Int) := by
  intro f
  induction f with
  | zero => intro X n h1 h2; simp at h2; omega
  | succ f ih =>
    intro X n h1 h2 h3
    apply Ev.succ
    unfold dg
    by_cases h : X ≤ 1
    · have h' : ¬ (X : Int) > 1 := by omega
      simp only [spec_l08Degree.l0, h', if_false, h, if_true, Nat.add_zero]; exact Ev.now _
    · have h' : (X : Int) > 1 := by omega
      have hp : 2 ^ (f + 1) = 2 * 2 ^ f := by rw [Nat.pow_succ, Nat.mul_comm]
      have e : (X : Int) / 2 = ((X / 2 : Nat) : Int) := by omega
      have h4 := ih (X / 2) (n + 1) (by omega) (by omega) (by omega)
      have e2 : n + 1 + dg f (X / 2) = n + (dg f (X / 2) + 1) := by omega
      rw [e2] at h4
      simp only [spec_l08Degree.l0, h', if_true, h, if_false, e, w64_succ (show n < 9223372036854775807 by omega)]; exact h4
theorem l08Degree_ev {p : Nat} (h1 : 2 ≤ p) (h2 : p ≤ 131071) : Ev (fun k => spec_l08Degree.f k (p : Int)) (deg p : Int) := by
  have h := l08Degree_l0 64 p 0 (by omega) (p_lt64 h2) (by omega)
  rw [Nat.zero_add] at h
  exact h

theorem SMs_l0 : ∀ (f X : Nat), 1 ≤ X → X < 2 ^ f → f ≤ 64 → X ≤ 131071 → Ev (fun k => spec_ShortestMissed.l0 k (X : Int)) (((dg f X : Nat) : Int) - ((Lib.ctzFrom f X : Nat) : Int) + 1, true) := by
  intro f
  induction f with
  | zero => intro X h1 h2; simp at h2; omega
  | succ f ih =>
    intro X h1 h2 hf hX
    have hm : Int.tmod (X : Int) 2 = ((X % 2 : Nat) : Int) := by rw [Int.tmod_eq_emod_of_nonneg (by omega)]; rfl
    have hd : Int.tdiv (X : Int) 2 = ((X / 2 : Nat) : Int) := by rw [Int.tdiv_eq_ediv_of_nonneg (by omega)]; rfl
    have hw : wrap64 ((X / 2 : Nat) : Int) = ((X / 2 : Nat) : Int) := w64 (by omega) (by omega)
    have hp : 2 ^ (f + 1) = 2 * 2 ^ f := by rw [Nat.pow_succ, Nat.mul_comm]
    have hb := dg_spec (f + 1) X h1 h2
    by_cases h0 : X % 2 = 0
    · have h3 := ih (X / 2) (by omega) (by omega) (by omega) (by omega)
      have e1 : dg (f + 1) X = dg f (X / 2) + 1 := by
        simp only [dg]
        rw [if_neg (by omega)]
      have e2 : Lib.ctzFrom (f + 1) X = Lib.ctzFrom f (X / 2) + 1 := by
        simp only [Lib.ctzFrom]
        rw [if_neg (by omega), Nat.add_comm]
      rw [e1, e2]
      rw [show (((dg f (X / 2) + 1 : Nat) : Int) - ((Lib.ctzFrom f (X / 2) + 1 : Nat) : Int) + 1, true) = (((dg f (X / 2) : Nat) : Int) - ((Lib.ctzFrom f (X / 2) : Nat) : Int) + 1, true) by congr 1; omega]
      apply Ev.succ
      simp only [spec_ShortestMissed.l0, hm, hd, hw]
      exact Ev.cond (fun _ => h3) (fun h' => absurd (show ((X % 2 : Nat) : Int) = 0 by omega) h')
    · have e2 : Lib.ctzFrom (f + 1) X = 0 := by
        simp only [Lib.ctzFrom]
        rw [if_pos (by omega)]
      have h3 := l08Degree_l0 (f + 1) X 0 h1 h2 (by omega)
      have hlt : dg (f + 1) X ≤ 1000 := by
        rcases Nat.lt_or_ge (dg (f + 1) X) 18 with h | h
        · omega
        · have h4 := Nat.pow_le_pow_right (show 0 < 2 by decide) h
          have h5 : 2 ^ 18 = 262144 := by decide
          omega
      have hw2 : wrap64 (((0 + dg (f + 1) X : Nat) : Int) + 1) = ((dg (f + 1) X : Nat) : Int) - ((0 : Nat) : Int) + 1 := by rw [w64 (by omega) (by omega)]; omega
      rw [e2]
      apply Ev.succ
      simp only [spec_ShortestMissed.l0, hm]
      refine Ev.cond (fun h' => absurd h' (by omega)) (fun _ => ?_)
      unfold spec_l08Degree.f
      refine Ev.bind h3 ?_
      rw [hw2]
      exact Ev.now _
theorem FnExactShortestMissed : laws_FnExactShortestMissed.Pure := by
  intro p hp
  refine Ev.rounds ?_
  unfold laws_FnExactShortestMissed.f
  have fin : ∀ r : Int × Bool, Ev (fun k => spec_ShortestMissed.f k p) r → impl_ShortestMissed.f p = some r → Ev (fun k => (spec_ShortestMissed.f k p).bind fun bt106 => ((impl_ShortestMissed.f p).bind fun bt108 => (if bt108.1 = bt106.1 then (if (bt108.2 != bt106.2) = true then (some false) else (some true)) else (some false)))) true := by
    intro r h1 h2
    refine Ev.bind h1 (Ev.bind (Ev.const h2) ?_)
    refine Ev.cond (fun _ => ?_) (fun h' => absurd rfl h')
    rw [bne_self_eq_false]
    exact Ev.cond (fun h' => absurd h' (by decide)) (fun _ => Ev.now _)
  by_cases h : 2 ≤ p ∧ p ≤ 131071
  · obtain ⟨P, rfl⟩ := Int.eq_ofNat_of_zero_le (show 0 ≤ p by omega)
    have h1 : 2 ≤ P := by omega
    have h2 : P ≤ 131071 := by omega
    have hc : Lib.ctz 64 P = Lib.ctzFrom 64 P := by unfold Lib.ctz; rw [if_neg (by omega)]
    have hd := deg16 h1 h2
    obtain ⟨_, _, hlt⟩ := Lib.ctzFrom_spec 64 P (by omega) (by omega)
    have w1 : wrap64 ((deg P : Int) - (Lib.ctzFrom 64 P : Int)) = (deg P : Int) - (Lib.ctzFrom 64 P : Int) := w64 (by omega) (by omega)
    have w2 : wrap64 ((deg P : Int) - (Lib.ctzFrom 64 P : Int) + 1) = (deg P : Int) - (Lib.ctzFrom 64 P : Int) + 1 := w64 (by omega) (by omega)
    refine fin ((deg P : Int) - (Lib.ctzFrom 64 P : Int) + 1, true) ?_ ?_
    · unfold spec_ShortestMissed.f
      refine Ev.bind (Ev.const (l08Check_eq _)) ?_
      rw [decide_eq_true h]
      refine Ev.cond (fun _ => ?_) (fun h' => absurd (by trivial) h')
      exact SMs_l0 64 P (by omega) (p_lt64 h2) (by omega) h2
    · unfold impl_ShortestMissed.f
      rw [IsCheck_eq, Option.bind_some, decide_eq_true h, if_pos rfl, degree_eq h1 h2, Option.bind_some, if_pos h, Int.toNat_natCast, hc, w1, w2]
  · refine fin (0, false) ?_ ?_
    · unfold spec_ShortestMissed.f
      refine Ev.bind (Ev.const (l08Check_eq _)) ?_
      rw [decide_eq_false h]
      exact Ev.cond (fun h' => absurd h' (by decide)) (fun _ => Ev.now _)
    · unfold impl_ShortestMissed.f
      rw [IsCheck_eq, Option.bind_some, decide_eq_false h, if_neg (by decide)]

end Go.Proofs.YthaafdeicgbajaaDoor.Pure
