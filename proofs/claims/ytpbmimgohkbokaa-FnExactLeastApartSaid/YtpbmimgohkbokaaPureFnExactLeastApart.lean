/- For all sides and bursts the program's LeastApart answers what the reference's does. -/
import Derived.Test.YtpbmimgohkbokaaPFnExactLeastApartx1
import Derived.Test.YtpbmimgohkbokaaBase
namespace Go.Proofs.Ytpbmimgohkbokaa.Pure
open Go.RowKit Go.Proofs.Ytpbmimgohkbokaa.PFnExactLeastApart Go.Proofs.Ytpbmimgohkbokaa.Base Go.Proofs.YtpbmimgohkbokaaW.PrintWords Go.Proofs.YtpbmimgohkbokaaW.PrintLast Go.Proofs.YtpbmimgohkbokaaW.PrintMore
set_option linter.unusedVariables false
set_option linter.unusedSimpArgs false

/-! l00In -/
theorem l00In_eq (a b c : Int) : spec_l00In.f a b c = some (decide (b ≤ a ∧ a ≤ c)) := by
  unfold spec_l00In.f
  by_cases h : b ≤ a
  · simp [h, ge_iff_le]
  · simp [h, ge_iff_le]

/-! within -/
theorem within_eq (a b c : Int) : impl_within.f a b c = some (decide (b ≤ a ∧ a ≤ c)) := by
  unfold impl_within.f
  by_cases h : b ≤ a
  · simp [h, ge_iff_le]
  · simp [h, ge_iff_le]

/-! sides -/
theorem l08Block_eq (a b : Int) : spec_l08Block.f a b = some (decide (1 ≤ a ∧ a ≤ 20) && decide (1 ≤ b ∧ b ≤ 20)) := by
  unfold spec_l08Block.f
  simp only [l00In_eq, Option.bind_some]
  by_cases h : 1 ≤ a ∧ a ≤ 20
  · simp [h]
  · simp [h]
theorem areSides_eq (a b : Int) : impl_areSides.f a b = some (decide (1 ≤ a ∧ a ≤ 20) && decide (1 ≤ b ∧ b ≤ 20)) := by
  unfold impl_areSides.f
  simp only [within_eq, Option.bind_some]
  by_cases h : 1 ≤ a ∧ a ≤ 20
  · simp [h]
  · simp [h]

/-! l00Max -/
theorem l00Max_eq (a b : Int) : spec_l00Max.f a b = some (max a b) := by
  unfold spec_l00Max.f
  by_cases h : a > b
  · rw [if_pos h]; congr 1; omega
  · rw [if_neg h]; congr 1; omega

/-! l00Min -/
theorem l00Min_eq (a b : Int) : spec_l00Min.f a b = some (min a b) := by
  unfold spec_l00Min.f
  by_cases h : a < b
  · rw [if_pos h]; congr 1; omega
  · rw [if_neg h]; congr 1; omega

/-! mxmn -/
theorem mx_eq (a b : Int) : mx a b = max a b := by unfold mx; split <;> omega
theorem mn_eq (a b : Int) : mn a b = min a b := by unfold mn; split <;> omega

/-! LeastApart -/
theorem prod_le {a b : Int} (ha : 1 ≤ a) (ha2 : a ≤ 20) (hb : 1 ≤ b) (hb2 : b ≤ 20) : 1 ≤ a * b ∧ a * b ≤ 400 := by
  constructor
  · have := Int.mul_le_mul ha hb (by omega) (by omega); omega
  · have := Int.mul_le_mul ha2 hb2 (by omega) (by omega); omega
theorem LA_inner (a b c : Int) (ha : 1 ≤ a) (ha2 : a ≤ 20) (hb : 1 ≤ b) (hb2 : b ≤ 20) (i : Int) (hi : 0 ≤ i) (hi2 : i < a * b) (hc2 : c ≤ 400) (hc1 : 2 ≤ c)
    (next : ∀ l, ∃ r, Ev (fun k => spec_LeastApart.l0 k a b c l (i + 1)) r ∧ Ev (fun k => impl_LeastApart.l0 k a b c l (a * b) (i + 1)) r) :
    ∀ (d : Nat) (l k0 : Int), 0 ≤ k0 → k0 ≤ a * b → k0 + d = a * b →
    ∃ r, Ev (fun k => spec_LeastApart.l1 k a b c l i k0) r ∧ Ev (fun k => impl_LeastApart.l1 k a b c l i k0 (a * b) i) r := by
  have hp := prod_le ha ha2 hb hb2
  have hp' : wrap64 (a * b) = a * b := w64 (by omega) (by omega)
  have hi1 : wrap64 (i + 1) = i + 1 := w64 (by omega) (by omega)
  have hic : wrap64 (i + c) = i + c := w64 (by omega) (by omega)
  have stop : ∀ l k0, ¬ (k0 < a * b ∧ k0 < i + c) → ∃ r, Ev (fun k => spec_LeastApart.l1 k a b c l i k0) r ∧ Ev (fun k => impl_LeastApart.l1 k a b c l i k0 (a * b) i) r := by
    intro l k0 hs
    obtain ⟨r, hr1, hr2⟩ := next l
    refine ⟨r, Ev.succ ?_, Ev.succ ?_⟩
    · by_cases h1 : k0 < a * b
      · have h2 : ¬ k0 < i + c := fun h => hs ⟨h1, h⟩
        simp only [spec_LeastApart.l1, hp', hic, h1, h2, if_true, decide_false]
        apply Ev.succ
        simp only [spec_LeastApart.j3, Bool.false_eq_true, if_false, hi1]; exact hr1
      · simp only [spec_LeastApart.l1, hp', h1, if_false]
        apply Ev.succ
        simp only [spec_LeastApart.j3, Bool.false_eq_true, if_false, hi1]; exact hr1
    · have h3 : ¬ k0 < min (i + c) (a * b) := by omega
      simp only [impl_LeastApart.l1, mn_eq, hp', hic, h3, if_false, hi1]; exact hr2
  intro d
  induction d with
  | zero =>
    intro l k0 hk hk2 h
    exact stop l k0 (by omega)
  | succ d ih =>
    intro l k0 hk hk2 h
    by_cases hs : k0 < a * b ∧ k0 < i + c
    · have h4 : ¬ a = 0 := by omega
      have hk1 : wrap64 (k0 + 1) = k0 + 1 := w64 (by omega) (by omega)
      have hneg : ∀ x y : Int, wrap64 (-(wrap64 (x - y))) = wrap64 (y - x) := by intro x y; unfold wrap64; omega
      obtain ⟨r, hr1, hr2⟩ := ih (min l (max (wrap64 (wrap64 (wrap64 (Int.tmod i a * b) + wrap64 (Int.tdiv i a)) - wrap64 (wrap64 (Int.tmod k0 a * b) + wrap64 (Int.tdiv k0 a)))) (wrap64 (wrap64 (wrap64 (Int.tmod k0 a * b) + wrap64 (Int.tdiv k0 a)) - wrap64 (wrap64 (Int.tmod i a * b) + wrap64 (Int.tdiv i a)))))) (k0 + 1) (by omega) (by omega) (by omega)
      refine ⟨r, Ev.succ ?_, Ev.succ ?_⟩
      · simp only [spec_LeastApart.l1, hp', hic, hs, if_true, decide_true]
        apply Ev.succ
        simp only [spec_LeastApart.j3, if_true, h4, if_false, l00Max_eq, l00Min_eq, Option.bind_some, hk1]; exact hr1
      · have h3 : k0 < min (i + c) (a * b) := by omega
        simp only [impl_LeastApart.l1, mn_eq, mx_eq, hp', hic, h3, if_true, impl_behindPlace.f, h4, if_false, Option.bind_some, hk1, hneg]; exact hr2
    · exact stop l k0 hs
theorem LA_outer (a b c : Int) (ha : 1 ≤ a) (ha2 : a ≤ 20) (hb : 1 ≤ b) (hb2 : b ≤ 20) (hc1 : 2 ≤ c) (hc2 : c ≤ 400) :
    ∀ (d : Nat) (l i : Int), 0 ≤ i → i ≤ a * b → i + d = a * b →
    ∃ r, Ev (fun k => spec_LeastApart.l0 k a b c l i) r ∧ Ev (fun k => impl_LeastApart.l0 k a b c l (a * b) i) r := by
  have hp := prod_le ha ha2 hb hb2
  have hp' : wrap64 (a * b) = a * b := w64 (by omega) (by omega)
  intro d
  induction d with
  | zero =>
    intro l i h0 h1 h
    have h2 : ¬ i < a * b := by omega
    refine ⟨(l, true), Ev.succ ?_, Ev.succ ?_⟩
    · simp only [spec_LeastApart.l0, hp', h2, if_false]; exact Ev.now _
    · simp only [impl_LeastApart.l0, h2, if_false]; exact Ev.now _
  | succ d ih =>
    intro l i h0 h1 h
    have h2 : i < a * b := by omega
    have hi1 : wrap64 (i + 1) = i + 1 := w64 (by omega) (by omega)
    obtain ⟨r, hr1, hr2⟩ := LA_inner a b c ha ha2 hb hb2 i h0 h2 hc2 hc1 (fun l => ih l (i + 1) (by omega) (by omega) (by omega)) d l (i + 1) (by omega) (by omega) (by omega)
    refine ⟨r, Ev.succ ?_, Ev.succ ?_⟩
    · simp only [spec_LeastApart.l0, hp', h2, if_true, hi1]; exact hr1
    · simp only [impl_LeastApart.l0, h2, if_true, hi1]; exact hr2
theorem LA_ev (a b c : Int) : ∃ r, Ev (fun k => spec_LeastApart.f k a b c) r ∧ Ev (fun k => impl_LeastApart.f k a b c) r := by
  unfold spec_LeastApart.f impl_LeastApart.f
  simp only [l08Block_eq, areSides_eq, l00In_eq, within_eq, Option.bind_some]
  by_cases h1 : 1 ≤ a ∧ a ≤ 20
  · by_cases h2 : 1 ≤ b ∧ b ≤ 20
    · have hp := prod_le h1.1 h1.2 h2.1 h2.2
      have hp' : wrap64 (a * b) = a * b := w64 (by omega) (by omega)
      by_cases h3 : 2 ≤ c ∧ c ≤ a * b
      · obtain ⟨r, hr1, hr2⟩ := LA_outer a b c h1.1 h1.2 h2.1 h2.2 h3.1 (by omega) (a * b).toNat (a * b) 0 (by omega) (by omega) (by omega)
        refine ⟨r, ?_, ?_⟩
        · simp only [h1, h2, h3, hp', and_self, decide_true, Bool.and_self, if_true, Bool.not_true]
          apply Ev.succ; simp only [spec_LeastApart.j0, Bool.false_eq_true, if_false, hp']; exact hr1
        · simp only [h1, h2, h3, hp', and_self, decide_true, Bool.and_self, if_true, Bool.not_true]
          apply Ev.succ; simp only [impl_LeastApart.j0, Bool.false_eq_true, if_false, hp']; exact hr2
      · refine ⟨(0, false), ?_, ?_⟩
        · simp only [h1, h2, h3, hp', and_self, decide_true, decide_false, Bool.and_self, if_true, Bool.not_false]
          apply Ev.succ; simp only [spec_LeastApart.j0, if_true]; exact Ev.now _
        · simp only [h1, h2, h3, hp', and_self, decide_true, decide_false, Bool.and_self, if_true, Bool.not_false]
          apply Ev.succ; simp only [impl_LeastApart.j0, if_true]; exact Ev.now _
    · refine ⟨(0, false), ?_, ?_⟩
      · simp only [h2, decide_false, Bool.and_false, Bool.false_eq_true, if_false]
        apply Ev.succ; simp only [spec_LeastApart.j0, if_true]; exact Ev.now _
      · simp only [h2, decide_false, Bool.and_false, Bool.false_eq_true, if_false]
        apply Ev.succ; simp only [impl_LeastApart.j0, if_true]; exact Ev.now _
  · refine ⟨(0, false), ?_, ?_⟩
    · simp only [h1, decide_false, Bool.false_and, Bool.false_eq_true, if_false]
      apply Ev.succ; simp only [spec_LeastApart.j0, if_true]; exact Ev.now _
    · simp only [h1, decide_false, Bool.false_and, Bool.false_eq_true, if_false]
      apply Ev.succ; simp only [impl_LeastApart.j0, if_true]; exact Ev.now _

theorem FnExactLeastApart : laws_FnExactLeastApart.Pure := by
  intro a b c ha hb hc
  refine Ev.rounds ?_
  unfold laws_FnExactLeastApart.f
  obtain ⟨r, h1, h2⟩ := LA_ev a b c
  refine Ev.bind h1 (Ev.bind h2 ?_)
  simp only [if_true, bne_self_eq_false, Bool.false_eq_true, if_false]
  exact Ev.now _

end Go.Proofs.Ytpbmimgohkbokaa.Pure
