/- For every list of levels the program's LongestFlat answers what the reference's does. -/
import Derived.Test.YtpbmimgohkbokaaQFnExactLongestFlatx2
import Derived.Test.YtpbmimgohkbokaaBase
namespace Go.Proofs.Ytpbmimgohkbokaa.Pure
open Go.RowKit Go.Proofs.Ytpbmimgohkbokaa.QFnExactLongestFlat Go.Proofs.Ytpbmimgohkbokaa.Base Go.Proofs.YtpbmimgohkbokaaW.PrintWords Go.Proofs.YtpbmimgohkbokaaW.PrintLast Go.Proofs.YtpbmimgohkbokaaW.PrintMore
set_option linter.unusedVariables false
set_option linter.unusedSimpArgs false

/-! within -/
theorem within_eq (a b c : Int) : impl_within.f a b c = some (decide (b ≤ a ∧ a ≤ c)) := by
  unfold impl_within.f
  by_cases h : b ≤ a
  · simp [h, ge_iff_le]
  · simp [h, ge_iff_le]

/-! areIn -/
theorem areIn_l0 (lo hi : Int) (xs : List Int) (hn : xs.length ≤ 1099511627776) : ∀ d n, n + d = xs.length → Ev (fun k => impl_areIn.l0 k lo hi xs (xs.length : Int) (n : Int)) (inAll lo hi (xs.drop n)) := by
  intro d
  induction d with
  | zero =>
    intro n h
    apply Ev.succ
    have h1 : ¬ ((n : Int) < (xs.length : Int)) := by omega
    have h2 : xs.drop n = [] := List.drop_eq_nil_of_le (by omega)
    simp only [impl_areIn.l0, h1, if_false, h2]
    exact Ev.now true
  | succ d ih =>
    intro n h
    apply Ev.succ
    have h1 : (n : Int) < (xs.length : Int) := by omega
    have h2 : (0 : Int) ≤ (n : Int) := by omega
    have h3 := ih (n + 1) (by omega)
    rw [drop_rd (show n < xs.length by omega), inAll_cons]
    simp only [impl_areIn.l0, h1, h2, if_true, within_eq, Option.bind_some, w64_succ (show n < 9223372036854775807 by omega)]
    by_cases hc : lo ≤ rd xs (n : Int) ∧ rd xs (n : Int) ≤ hi
    · simp only [hc, decide_true, if_true, Bool.true_and, and_self]; exact h3
    · simp only [hc, decide_false, Bool.false_and, Bool.false_eq_true, if_false]; exact Ev.now false
theorem areIn_ev (lo hi : Int) (xs : List Int) (hn : xs.length ≤ 1099511627776) : Ev (fun k => impl_areIn.f k xs lo hi) (inAll lo hi xs) := by
  have h := areIn_l0 lo hi xs hn xs.length 0 (by omega)
  exact h

/-! areLevels -/
theorem areLevels_ev (xs : List Int) (hn : xs.length ≤ 1099511627776) : Ev (fun k => impl_areLevels.f k xs) (levelsB xs) := by
  unfold impl_areLevels.f levelsB
  by_cases h : xs.length ≤ 800
  · have h1 : (xs.length : Int) ≤ 800 := by omega
    simp only [h1, if_true, h, decide_true, Bool.and_true]
    exact Ev.bind (areIn_ev (-1) 1 xs hn) (Ev.now _)
  · have h1 : ¬ (xs.length : Int) ≤ 800 := by omega
    simp only [h1, if_false, h, decide_false, Bool.and_false]
    exact Ev.now _

/-! l00In -/
theorem l00In_eq (a b c : Int) : spec_l00In.f a b c = some (decide (b ≤ a ∧ a ≤ c)) := by
  unfold spec_l00In.f
  by_cases h : b ≤ a
  · simp [h, ge_iff_le]
  · simp [h, ge_iff_le]

/-! l10Is -/
theorem l10Is_l0 (xs : List Int) (hn : xs.length ≤ 1099511627776) : ∀ d n, n + d = xs.length → Ev (fun k => spec_l10Is.l0 k xs (n : Int)) (inAll (-1) 1 (xs.drop n) && decide (xs.length ≤ 800)) := by
  intro d
  induction d with
  | zero =>
    intro n h
    apply Ev.succ
    have h1 : ¬ ((n : Int) < (xs.length : Int)) := by omega
    have h2 : xs.drop n = [] := List.drop_eq_nil_of_le (by omega)
    have h3 : ((xs.length : Int) ≤ 800) = (xs.length ≤ 800) := propext ⟨fun h => by omega, fun h => by omega⟩
    simp only [spec_l10Is.l0, h1, if_false, h2, h3]
    exact Ev.now _
  | succ d ih =>
    intro n h
    apply Ev.succ
    have h1 : (n : Int) < (xs.length : Int) := by omega
    have h2 : (0 : Int) ≤ (n : Int) := by omega
    have h3 := ih (n + 1) (by omega)
    rw [drop_rd (show n < xs.length by omega), inAll_cons]
    simp only [spec_l10Is.l0, h1, h2, if_true, l00In_eq, Option.bind_some, w64_succ (show n < 9223372036854775807 by omega)]
    by_cases hc : (-1) ≤ rd xs (n : Int) ∧ rd xs (n : Int) ≤ 1
    · simp only [hc, decide_true, if_true, Bool.true_and, and_self]; exact h3
    · simp only [hc, decide_false, Bool.false_and, Bool.false_eq_true, if_false]; exact Ev.now false
theorem l10Is_ev (xs : List Int) (hn : xs.length ≤ 1099511627776) : Ev (fun k => spec_l10Is.f k xs) (levelsB xs) := by
  have h := l10Is_l0 xs hn xs.length 0 (by omega)
  exact h

/-! toInt64S -/
theorem toInt64S_l0 (xs : List Int) (hn : xs.length ≤ 1099511627776) : ∀ d n, n + d = xs.length → Ev (fun k => laws_toInt64S.l0 k xs (xs.take n ++ List.replicate d 0) (n : Int)) xs := by
  intro d
  induction d with
  | zero =>
    intro n h
    apply Ev.succ
    have h1 : ¬ ((n : Int) < (xs.length : Int)) := by omega
    have h2 : xs.take n = xs := List.take_of_length_le (by omega)
    simp only [laws_toInt64S.l0, h1, if_false, h2, List.replicate_zero, List.append_nil]
    exact Ev.now _
  | succ d ih =>
    intro n h
    apply Ev.succ
    have h1 : (n : Int) < (xs.length : Int) := by omega
    have h2 : (0 : Int) ≤ (n : Int) := by omega
    have h3 := ih (n + 1) (by omega)
    have h4 : (n : Int) < ((xs.take n ++ List.replicate (d + 1) (0 : Int)).length : Int) := by
      simp only [List.length_append, List.length_take, List.length_replicate]; omega
    have h5 : (xs.take n ++ List.replicate (d + 1) (0 : Int)).set n (rd xs (n : Int)) = xs.take (n + 1) ++ List.replicate d 0 := by
      rw [List.replicate_succ, set_mid _ _ _ _ _ (by rw [List.length_take]; omega), take_rd (show n < xs.length by omega)]
      simp
    simp only [laws_toInt64S.l0, h1, h2, h4, if_true, Int.toNat_natCast, h5, w64_succ (show n < 9223372036854775807 by omega)]
    exact h3
theorem toInt64S_ev (xs : List Int) (hn : xs.length ≤ 1099511627776) : Ev (fun k => laws_toInt64S.f k xs) xs := by
  unfold laws_toInt64S.f
  have h1 : (0 : Int) ≤ (xs.length : Int) := by omega
  have h2 : xs.length ≤ 35184372088832 := by omega
  simp only [h1, if_true, Int.toNat_natCast, h2]
  have h := toInt64S_l0 xs hn xs.length 0 (by omega)
  exact h

/-! eqInt64S -/
theorem eqInt64S_l0 (xs ys : List Int) (hl : xs.length = ys.length) (hn : xs.length ≤ 1099511627776) : ∀ d n, n + d = xs.length → Ev (fun k => laws_eqInt64S.l0 k xs ys (n : Int)) (decide (xs.drop n = ys.drop n)) := by
  intro d
  induction d with
  | zero =>
    intro n h
    apply Ev.succ
    have h1 : ¬ ((n : Int) < (xs.length : Int)) := by omega
    have h2 : xs.drop n = [] := List.drop_eq_nil_of_le (by omega)
    have h3 : ys.drop n = [] := List.drop_eq_nil_of_le (by omega)
    simp only [laws_eqInt64S.l0, h1, if_false, h2, h3, decide_true]
    exact Ev.now true
  | succ d ih =>
    intro n h
    apply Ev.succ
    have h1 : (n : Int) < (xs.length : Int) := by omega
    have h1' : (n : Int) < (ys.length : Int) := by omega
    have h2 : (0 : Int) ≤ (n : Int) := by omega
    have h3 := ih (n + 1) (by omega)
    rw [drop_rd (show n < xs.length by omega), drop_rd (show n < ys.length by omega)]
    simp only [laws_eqInt64S.l0, h1, h1', h2, if_true, w64_succ (show n < 9223372036854775807 by omega), List.cons.injEq]
    by_cases hc : rd xs (n : Int) = rd ys (n : Int)
    · simp only [hc, if_true, true_and]; exact h3
    · simp only [hc, if_false, false_and, decide_false]; exact Ev.now false
theorem eqInt64S_ev (xs ys : List Int) (hn : xs.length ≤ 1099511627776) : Ev (fun k => laws_eqInt64S.f k xs ys) (decide (xs = ys)) := by
  unfold laws_eqInt64S.f
  by_cases hl : xs.length = ys.length
  · have h1 : (xs.length : Int) = (ys.length : Int) := by omega
    simp only [h1, if_true]
    have h := eqInt64S_l0 xs ys hl hn xs.length 0 (by omega)
    exact h
  · have h1 : ¬ (xs.length : Int) = (ys.length : Int) := by omega
    have h2 : ¬ xs = ys := fun h => hl (by rw [h])
    simp only [h1, if_false, h2, decide_false]
    exact Ev.now false
theorem eqInt64S_same (xs : List Int) (hn : xs.length ≤ 1099511627776) : Ev (fun k => laws_eqInt64S.f k xs xs) true := by
  have h := eqInt64S_ev xs xs hn
  rw [decide_eq_true rfl] at h
  exact h

/-! l00Max -/
theorem l00Max_eq (a b : Int) : spec_l00Max.f a b = some (max a b) := by
  unfold spec_l00Max.f
  by_cases h : a > b
  · rw [if_pos h]; congr 1; omega
  · rw [if_neg h]; congr 1; omega

/-! mxmn -/
theorem mx_eq (a b : Int) : mx a b = max a b := by unfold mx; split <;> omega
theorem mn_eq (a b : Int) : mn a b = min a b := by unfold mn; split <;> omega

theorem LF_both (xs : List Int) (hn : xs.length ≤ 1099511627776) : ∀ (d n : Nat) (b c : Int), n + d = xs.length →
    ∃ r, Ev (fun k => spec_l10Flat.l0 k xs b c (n : Int)) r ∧ Ev (fun k => impl_LongestFlat.l0 k xs b c xs (xs.length : Int) (n : Int)) (r, true) := by
  intro d
  induction d with
  | zero =>
    intro n b c h
    have h1 : ¬ ((n : Int) < (xs.length : Int)) := by omega
    refine ⟨b, Ev.succ ?_, Ev.succ ?_⟩
    · simp only [spec_l10Flat.l0, h1, if_false]; exact Ev.now _
    · simp only [impl_LongestFlat.l0, h1, if_false]; exact Ev.now _
  | succ d ih =>
    intro n b c h
    have h1 : (n : Int) < (xs.length : Int) := by omega
    have h2 : (0 : Int) ≤ (n : Int) := by omega
    by_cases h3 : (n : Int) > 0
    · have h4 : wrap64 ((n : Int) - 1) = (n : Int) - 1 := w64 (by omega) (by omega)
      have h5 : (0 : Int) ≤ (n : Int) - 1 := by omega
      have h6 : (n : Int) - 1 < (xs.length : Int) := by omega
      by_cases hc : rd xs (n : Int) = rd xs ((n : Int) - 1)
      · obtain ⟨r, hr1, hr2⟩ := ih (n + 1) (max b (wrap64 (c + 1))) (wrap64 (c + 1)) (by omega)
        refine ⟨r, Ev.succ ?_, Ev.succ ?_⟩
        · simp only [spec_l10Flat.l0, h1, h2, h3, h4, h5, h6, hc, if_true, l00Max_eq, Option.bind_some, w64_succ (show n < 9223372036854775807 by omega)]; exact hr1
        · simp only [impl_LongestFlat.l0, h1, h2, h3, h4, h5, h6, hc, if_true, mx_eq, w64_succ (show n < 9223372036854775807 by omega)]; exact hr2
      · obtain ⟨r, hr1, hr2⟩ := ih (n + 1) (max b (0 + 1)) (0 + 1) (by omega)
        refine ⟨r, Ev.succ ?_, Ev.succ ?_⟩
        · simp only [spec_l10Flat.l0, h1, h2, h3, h4, h5, h6, hc, if_true, if_false, l00Max_eq, Option.bind_some, w64_succ (show n < 9223372036854775807 by omega)]; exact hr1
        · simp only [impl_LongestFlat.l0, h1, h2, h3, h4, h5, h6, hc, if_true, if_false, mx_eq, w64_succ (show n < 9223372036854775807 by omega)]; exact hr2
    · obtain ⟨r, hr1, hr2⟩ := ih (n + 1) (max b (wrap64 (c + 1))) (wrap64 (c + 1)) (by omega)
      refine ⟨r, Ev.succ ?_, Ev.succ ?_⟩
      · simp only [spec_l10Flat.l0, h1, h2, h3, if_true, if_false, l00Max_eq, Option.bind_some, w64_succ (show n < 9223372036854775807 by omega)]; exact hr1
      · simp only [impl_LongestFlat.l0, h1, h2, h3, if_true, if_false, mx_eq, w64_succ (show n < 9223372036854775807 by omega)]; exact hr2
theorem LF_ev (xs : List Int) (hn : xs.length ≤ 1099511627776) : ∃ r, Ev (fun k => spec_LongestFlat.f k xs) r ∧ Ev (fun k => impl_LongestFlat.f k xs) r := by
  unfold spec_LongestFlat.f impl_LongestFlat.f
  by_cases hb : levelsB xs = true
  · obtain ⟨r, hr1, hr2⟩ := LF_both xs hn xs.length 0 0 0 (by omega)
    refine ⟨(r, true), Ev.bind (l10Is_ev xs hn) ?_, Ev.bind (areLevels_ev xs hn) ?_⟩
    · simp only [hb, if_true]; exact Ev.bind hr1 (Ev.now _)
    · simp only [hb, if_true]; exact hr2
  · refine ⟨(0, false), Ev.bind (l10Is_ev xs hn) ?_, Ev.bind (areLevels_ev xs hn) ?_⟩
    · simp only [hb, if_false]; exact Ev.now _
    · simp only [hb, if_false]; exact Ev.now _
theorem FnExactLongestFlat : laws_FnExactLongestFlat.Pure := by
  intro xs h0 h1 hx
  refine Ev.rounds ?_
  unfold laws_FnExactLongestFlat.f
  by_cases hl : (xs.length : Int) > 1048576
  · simp only [hl, if_true]; exact Ev.now _
  have hn : xs.length ≤ 1099511627776 := by omega
  obtain ⟨r, hs, hi⟩ := LF_ev xs hn
  simp only [hl, if_false]
  refine Ev.bind (toInt64S_ev xs hn) (Ev.bind hs (Ev.bind (toInt64S_ev xs hn) (Ev.bind hi ?_)))
  simp only [if_true, bne_self_eq_false]
  refine Ev.succ ?_
  simp only [laws_FnExactLongestFlat.j0, Bool.false_eq_true, if_false]
  refine Ev.bind (toInt64S_ev xs hn) (Ev.bind (eqInt64S_same _ hn) ?_)
  simp only [if_true]
  exact Ev.now _

end Go.Proofs.Ytpbmimgohkbokaa.Pure
