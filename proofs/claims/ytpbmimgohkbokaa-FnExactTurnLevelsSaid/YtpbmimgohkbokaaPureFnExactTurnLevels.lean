/- For every list of levels the program's TurnLevels answers what the reference's does, and shares no memory with what it was handed. -/
import Derived.Test.YtpbmimgohkbokaaPFnExactTurnLevelsx3
import Derived.Test.YtpbmimgohkbokaaBase
namespace Go.Proofs.Ytpbmimgohkbokaa.Pure
open Go.RowKit Go.Proofs.Ytpbmimgohkbokaa.PFnExactTurnLevels Go.Proofs.Ytpbmimgohkbokaa.Base Go.Proofs.YtpbmimgohkbokaaW.PrintWords Go.Proofs.YtpbmimgohkbokaaW.PrintLast Go.Proofs.YtpbmimgohkbokaaW.PrintMore
set_option linter.unusedVariables false
set_option linter.unusedSimpArgs false

/-! within -/
theorem within_eq (a b c : Int) : impl_within.f a b c = some (decide (b ≤ a ∧ a ≤ c)) := by
  unfold impl_within.f
  by_cases h : b ≤ a
  · simp [h, ge_iff_le]
  · simp [h, ge_iff_le]

/-! areIn -/
theorem areIn_l0 (lo hi : Int) (xs : List Int) (hn : xs.length ≤ 1099511627776) : ∀ d n, n + d = xs.length → Ev (fun k => impl_areIn.l0 k lo hi xs (xs.length : Int) (n : Int)) (inAll lo hi (xs.drop n)) := by
  intro d
  induction d with
  | zero =>
    intro n h
    apply Ev.succ
    have h1 : ¬ ((n : Int) < (xs.length : Int)) := by omega
    have h2 : xs.drop n = [] := List.drop_eq_nil_of_le (by omega)
    simp only [impl_areIn.l0, h1, if_false, h2]
    exact Ev.now true
  | succ d ih =>
    intro n h
    apply Ev.succ
    have h1 : (n : Int) < (xs.length : Int) := by omega
    have h2 : (0 : Int) ≤ (n : Int) := by omega
    have h3 := ih (n + 1) (by omega)
    rw [drop_rd (show n < xs.length by omega), inAll_cons]
    simp only [impl_areIn.l0, h1, h2, if_true, within_eq, Option.bind_some, w64_succ (show n < 9223372036854775807 by omega)]
    by_cases hc : lo ≤ rd xs (n : Int) ∧ rd xs (n : Int) ≤ hi
    · simp only [hc, decide_true, if_true, Bool.true_and, and_self]; exact h3
    · simp only [hc, decide_false, Bool.false_and, Bool.false_eq_true, if_false]; exact Ev.now false
theorem areIn_ev (lo hi : Int) (xs : List Int) (hn : xs.length ≤ 1099511627776) : Ev (fun k => impl_areIn.f k xs lo hi) (inAll lo hi xs) := by
  have h := areIn_l0 lo hi xs hn xs.length 0 (by omega)
  exact h

/-! areLevels -/
theorem areLevels_ev (xs : List Int) (hn : xs.length ≤ 1099511627776) : Ev (fun k => impl_areLevels.f k xs) (levelsB xs) := by
  unfold impl_areLevels.f levelsB
  by_cases h : xs.length ≤ 800
  · have h1 : (xs.length : Int) ≤ 800 := by omega
    simp only [h1, if_true, h, decide_true, Bool.and_true]
    exact Ev.bind (areIn_ev (-1) 1 xs hn) (Ev.now _)
  · have h1 : ¬ (xs.length : Int) ≤ 800 := by omega
    simp only [h1, if_false, h, decide_false, Bool.and_false]
    exact Ev.now _

/-! l00In -/
theorem l00In_eq (a b c : Int) : spec_l00In.f a b c = some (decide (b ≤ a ∧ a ≤ c)) := by
  unfold spec_l00In.f
  by_cases h : b ≤ a
  · simp [h, ge_iff_le]
  · simp [h, ge_iff_le]

/-! l10Is -/
theorem l10Is_l0 (xs : List Int) (hn : xs.length ≤ 1099511627776) : ∀ d n, n + d = xs.length → Ev (fun k => spec_l10Is.l0 k xs (n : Int)) (inAll (-1) 1 (xs.drop n) && decide (xs.length ≤ 800)) := by
  intro d
  induction d with
  | zero =>
    intro n h
    apply Ev.succ
    have h1 : ¬ ((n : Int) < (xs.length : Int)) := by omega
    have h2 : xs.drop n = [] := List.drop_eq_nil_of_le (by omega)
    have h3 : ((xs.length : Int) ≤ 800) = (xs.length ≤ 800) := propext ⟨fun h => by omega, fun h => by omega⟩
    simp only [spec_l10Is.l0, h1, if_false, h2, h3]
    exact Ev.now _
  | succ d ih =>
    intro n h
    apply Ev.succ
    have h1 : (n : Int) < (xs.length : Int) := by omega
    have h2 : (0 : Int) ≤ (n : Int) := by omega
    have h3 := ih (n + 1) (by omega)
    rw [drop_rd (show n < xs.length by omega), inAll_cons]
    simp only [spec_l10Is.l0, h1, h2, if_true, l00In_eq, Option.bind_some, w64_succ (show n < 9223372036854775807 by omega)]
    by_cases hc : (-1) ≤ rd xs (n : Int) ∧ rd xs (n : Int) ≤ 1
    · simp only [hc, decide_true, if_true, Bool.true_and, and_self]; exact h3
    · simp only [hc, decide_false, Bool.false_and, Bool.false_eq_true, if_false]; exact Ev.now false
theorem l10Is_ev (xs : List Int) (hn : xs.length ≤ 1099511627776) : Ev (fun k => spec_l10Is.f k xs) (levelsB xs) := by
  have h := l10Is_l0 xs hn xs.length 0 (by omega)
  exact h

/-! toInt64S -/
theorem toInt64S_l0 (xs : List Int) (hn : xs.length ≤ 1099511627776) : ∀ d n, n + d = xs.length → Ev (fun k => laws_toInt64S.l0 k xs (xs.take n ++ List.replicate d 0) (n : Int)) xs := by
  intro d
  induction d with
  | zero =>
    intro n h
    apply Ev.succ
    have h1 : ¬ ((n : Int) < (xs.length : Int)) := by omega
    have h2 : xs.take n = xs := List.take_of_length_le (by omega)
    simp only [laws_toInt64S.l0, h1, if_false, h2, List.replicate_zero, List.append_nil]
    exact Ev.now _
  | succ d ih =>
    intro n h
    apply Ev.succ
    have h1 : (n : Int) < (xs.length : Int) := by omega
    have h2 : (0 : Int) ≤ (n : Int) := by omega
    have h3 := ih (n + 1) (by omega)
    have h4 : (n : Int) < ((xs.take n ++ List.replicate (d + 1) (0 : Int)).length : Int) := by
      simp only [List.length_append, List.length_take, List.length_replicate]; omega
    have h5 : (xs.take n ++ List.replicate (d + 1) (0 : Int)).set n (rd xs (n : Int)) = xs.take (n + 1) ++ List.replicate d 0 := by
      rw [List.replicate_succ, set_mid _ _ _ _ _ (by rw [List.length_take]; omega), take_rd (show n < xs.length by omega)]
      simp
    simp only [laws_toInt64S.l0, h1, h2, h4, if_true, Int.toNat_natCast, h5, w64_succ (show n < 9223372036854775807 by omega)]
    exact h3
theorem toInt64S_ev (xs : List Int) (hn : xs.length ≤ 1099511627776) : Ev (fun k => laws_toInt64S.f k xs) xs := by
  unfold laws_toInt64S.f
  have h1 : (0 : Int) ≤ (xs.length : Int) := by omega
  have h2 : xs.length ≤ 35184372088832 := by omega
  simp only [h1, if_true, Int.toNat_natCast, h2]
  have h := toInt64S_l0 xs hn xs.length 0 (by omega)
  exact h

/-! eqInt64S -/
theorem eqInt64S_l0 (xs ys : List Int) (hl : xs.length = ys.length) (hn : xs.length ≤ 1099511627776) : ∀ d n, n + d = xs.length → Ev (fun k => laws_eqInt64S.l0 k xs ys (n : Int)) (decide (xs.drop n = ys.drop n)) := by
  intro d
  induction d with
  | zero =>
    intro n h
    apply Ev.succ
    have h1 : ¬ ((n : Int) < (xs.length : Int)) := by omega
    have h2 : xs.drop n = [] := List.drop_eq_nil_of_le (by omega)
    have h3 : ys.drop n = [] := List.drop_eq_nil_of_le (by omega)
    simp only [laws_eqInt64S.l0, h1, if_false, h2, h3, decide_true]
    exact Ev.now true
  | succ d ih =>
    intro n h
    apply Ev.succ
    have h1 : (n : Int) < (xs.length : Int) := by omega
    have h1' : (n : Int) < (ys.length : Int) := by omega
    have h2 : (0 : Int) ≤ (n : Int) := by omega
    have h3 := ih (n + 1) (by omega)
    rw [drop_rd (show n < xs.length by omega), drop_rd (show n < ys.length by omega)]
    simp only [laws_eqInt64S.l0, h1, h1', h2, if_true, w64_succ (show n < 9223372036854775807 by omega), List.cons.injEq]
    by_cases hc : rd xs (n : Int) = rd ys (n : Int)
    · simp only [hc, if_true, true_and]; exact h3
    · simp only [hc, if_false, false_and, decide_false]; exact Ev.now false
theorem eqInt64S_ev (xs ys : List Int) (hn : xs.length ≤ 1099511627776) : Ev (fun k => laws_eqInt64S.f k xs ys) (decide (xs = ys)) := by
  unfold laws_eqInt64S.f
  by_cases hl : xs.length = ys.length
  · have h1 : (xs.length : Int) = (ys.length : Int) := by omega
    simp only [h1, if_true]
    have h := eqInt64S_l0 xs ys hl hn xs.length 0 (by omega)
    exact h
  · have h1 : ¬ (xs.length : Int) = (ys.length : Int) := by omega
    have h2 : ¬ xs = ys := fun h => hl (by rw [h])
    simp only [h1, if_false, h2, decide_false]
    exact Ev.now false
theorem eqInt64S_same (xs : List Int) (hn : xs.length ≤ 1099511627776) : Ev (fun k => laws_eqInt64S.f k xs xs) true := by
  have h := eqInt64S_ev xs xs hn
  rw [decide_eq_true rfl] at h
  exact h

/-! markInt64S -/
theorem markInt64S_l0 (m : Int) (hm : 0 ≤ m) (hm2 : m ≤ 4611686018427387904) : ∀ (d : Nat) (ws xs : List Int) (n : Nat), ws.length = n → xs.length = d → n + d ≤ 1099511627776 → Ev (fun k => laws_markInt64S.l0 k (ws ++ xs) (m + n) (n : Int)) (m + n + d, ws ++ upFrom (m + n) d) := by
  intro d
  induction d with
  | zero =>
    intro ws xs n h hx hn
    apply Ev.succ
    obtain rfl : xs = [] := List.eq_nil_of_length_eq_zero hx
    have h1 : ¬ ((n : Int) < ((ws ++ ([] : List Int)).length : Int)) := by simp; omega
    simp only [laws_markInt64S.l0, h1, if_false, upFrom]
    exact Ev.of (fun _ => LeO.refl _) (k := 0) (by simp)
  | succ d ih =>
    intro ws xs n h hx hn
    apply Ev.succ
    obtain ⟨x, xs, rfl⟩ : ∃ x ys, xs = x :: ys := by
      cases xs with
      | nil => simp at hx
      | cons x ys => exact ⟨x, ys, rfl⟩
    have h1 : ((n : Int) < ((ws ++ x :: xs).length : Int)) := by simp; omega
    have h2 : (0 : Int) ≤ (n : Int) := by omega
    have h3 := ih (ws ++ [m + n]) xs (n + 1) (by simp [h]) (by simpa using hx) (by omega)
    have h5 : wrap64 (m + n + 1) = m + ((n + 1 : Nat) : Int) := by rw [w64 (by omega) (by omega)]; omega
    simp only [laws_markInt64S.l0, h1, h2, if_true, Int.toNat_natCast, set_mid _ _ _ _ _ h, h5, w64_succ (show n < 9223372036854775807 by omega)]
    have e1 : ws ++ [m + (n : Int)] ++ xs = ws ++ (m + n) :: xs := by simp
    have e2 : ws ++ [m + (n : Int)] ++ upFrom (m + ((n + 1 : Nat) : Int)) d = ws ++ upFrom (m + n) (d + 1) := by
      rw [upFrom, List.append_assoc]
      have e3 : m + ((n + 1 : Nat) : Int) = m + n + 1 := by omega
      rw [e3]; rfl
    have e4 : m + ((n + 1 : Nat) : Int) + (d : Int) = m + n + ((d + 1 : Nat) : Int) := by omega
    rw [e1, e2, e4] at h3
    exact h3
theorem markInt64S_ev (xs : List Int) (m : Int) (hm : 0 ≤ m) (hm2 : m ≤ 4611686018427387904) (hn : xs.length ≤ 1099511627776) : Ev (fun k => laws_markInt64S.f k xs m) (m + (xs.length : Int), upFrom m xs.length) := by
  have h := markInt64S_l0 m hm hm2 xs.length [] xs 0 rfl rfl (by omega)
  have e : m + ((0 : Nat) : Int) = m := by omega
  rw [e] at h
  exact h

/-! heldInt64S -/
theorem heldInt64S_l0 (m : Int) (hm : 0 ≤ m) (hm2 : m ≤ 4611686018427387904) : ∀ (d : Nat) (ws : List Int) (n : Nat), ws.length = n → n + d ≤ 1099511627776 → Ev (fun k => laws_heldInt64S.l0 k (ws ++ upFrom (m + n) d) (m + n) (n : Int)) (m + n + d) := by
  intro d
  induction d with
  | zero =>
    intro ws n h hn
    apply Ev.succ
    have h1 : ¬ ((n : Int) < ((ws ++ upFrom (m + n) 0).length : Int)) := by simp [upFrom]; omega
    simp only [laws_heldInt64S.l0, h1, if_false]
    exact Ev.of (fun _ => LeO.refl _) (k := 0) (by simp)
  | succ d ih =>
    intro ws n h hn
    apply Ev.succ
    have h1 : ((n : Int) < ((ws ++ upFrom (m + n) (d + 1)).length : Int)) := by simp [upFrom_length]; omega
    have h2 : (0 : Int) ≤ (n : Int) := by omega
    have h3 := ih (ws ++ [m + n]) (n + 1) (by simp [h]) (by omega)
    have h5 : wrap64 (m + n + 1) = m + ((n + 1 : Nat) : Int) := by rw [w64 (by omega) (by omega)]; omega
    have h6 : rd (ws ++ upFrom (m + n) (d + 1)) (n : Int) = m + n := by
      rw [rd_nat, List.getD_eq_getElem?_getD, List.getElem?_append_right (by omega), h, Nat.sub_self]; rfl
    simp only [laws_heldInt64S.l0, h1, h2, if_true, h5, h6, w64_succ (show n < 9223372036854775807 by omega)]
    have e2 : ws ++ [m + (n : Int)] ++ upFrom (m + ((n + 1 : Nat) : Int)) d = ws ++ upFrom (m + n) (d + 1) := by
      rw [upFrom, List.append_assoc]
      have e3 : m + ((n + 1 : Nat) : Int) = m + n + 1 := by omega
      rw [e3]; rfl
    have e4 : m + ((n + 1 : Nat) : Int) + (d : Int) = m + n + ((d + 1 : Nat) : Int) := by omega
    rw [e2, e4] at h3
    exact h3
theorem heldInt64S_ev (m : Int) (l : Nat) (hm : 0 ≤ m) (hm2 : m ≤ 4611686018427387904) (hn : l ≤ 1099511627776) : Ev (fun k => laws_heldInt64S.f k (upFrom m l) m) (m + (l : Int)) := by
  have h := heldInt64S_l0 m hm hm2 l [] 0 rfl (by omega)
  have e : m + ((0 : Nat) : Int) = m := by omega
  rw [e] at h
  exact h

theorem TL_spec (xs : List Int) (hn : xs.length ≤ 1099511627776) : ∀ d n, n + d = xs.length → Ev (fun k => spec_TurnLevels.l0 k xs ((xs.take n).map fun x => wrap64 (-x)) (n : Int)) (xs.map fun x => wrap64 (-x), true) := by
  intro d
  induction d with
  | zero =>
    intro n h
    apply Ev.succ
    have h1 : ¬ ((n : Int) < (xs.length : Int)) := by omega
    have h2 : xs.take n = xs := List.take_of_length_le (by omega)
    simp only [spec_TurnLevels.l0, h1, if_false, h2]
    exact Ev.now _
  | succ d ih =>
    intro n h
    apply Ev.succ
    have h1 : (n : Int) < (xs.length : Int) := by omega
    have h2 : (0 : Int) ≤ (n : Int) := by omega
    have h3 := ih (n + 1) (by omega)
    have h4 : ((xs.take n).map fun x => wrap64 (-x)).length < 17592186044416 := by rw [List.length_map, List.length_take]; omega
    rw [take_rd (show n < xs.length by omega), List.map_append] at h3
    simp only [spec_TurnLevels.l0, h1, h2, h4, if_true, w64_succ (show n < 9223372036854775807 by omega)]
    exact h3
theorem TL_impl (xs : List Int) (hn : xs.length ≤ 1099511627776) : ∀ d n, n + d = xs.length → Ev (fun k => impl_TurnLevels.l0 k ((xs.take n).map fun x => wrap64 (-x)) xs (xs.length : Int) (n : Int)) (xs.map fun x => wrap64 (-x), true) := by
  intro d
  induction d with
  | zero =>
    intro n h
    apply Ev.succ
    have h1 : ¬ ((n : Int) < (xs.length : Int)) := by omega
    have h2 : xs.take n = xs := List.take_of_length_le (by omega)
    simp only [impl_TurnLevels.l0, h1, if_false, h2]
    exact Ev.now _
  | succ d ih =>
    intro n h
    apply Ev.succ
    have h1 : (n : Int) < (xs.length : Int) := by omega
    have h2 : (0 : Int) ≤ (n : Int) := by omega
    have h3 := ih (n + 1) (by omega)
    have h4 : ((xs.take n).map fun x => wrap64 (-x)).length < 17592186044416 := by rw [List.length_map, List.length_take]; omega
    rw [take_rd (show n < xs.length by omega), List.map_append] at h3
    simp only [impl_TurnLevels.l0, h1, h2, h4, if_true, w64_succ (show n < 9223372036854775807 by omega)]
    exact h3
def TL_ans (xs : List Int) : List Int × Bool := if levelsB xs = true then (xs.map fun x => wrap64 (-x), true) else ([], false)
theorem TL_spec_ev (xs : List Int) (hn : xs.length ≤ 1099511627776) : Ev (fun k => spec_TurnLevels.f k xs) (TL_ans xs) := by
  unfold spec_TurnLevels.f TL_ans
  refine Ev.bind (l10Is_ev xs hn) (Ev.ite (fun _ => ?_) (fun _ => Ev.now _))
  have h := TL_spec xs hn xs.length 0 (by omega)
  exact h
theorem TL_impl_ev (xs : List Int) (hn : xs.length ≤ 1099511627776) : Ev (fun k => impl_TurnLevels.f k xs) (TL_ans xs) := by
  unfold impl_TurnLevels.f TL_ans
  refine Ev.bind (areLevels_ev xs hn) (Ev.ite (fun _ => ?_) (fun _ => Ev.now _))
  have h := TL_impl xs hn xs.length 0 (by omega)
  exact h
theorem TL_len (xs : List Int) (hn : xs.length ≤ 1099511627776) : (TL_ans xs).1.length ≤ 1099511627776 := by
  unfold TL_ans
  split
  · simpa using hn
  · simp
theorem FnExactTurnLevels : laws_FnExactTurnLevels.Pure := by
  intro xs h0 h1 hx
  refine Ev.rounds ?_
  unfold laws_FnExactTurnLevels.f
  by_cases hl : (xs.length : Int) > 1048576
  · simp only [hl, if_true]; exact Ev.now _
  have hn : xs.length ≤ 1099511627776 := by omega
  have hr := TL_len xs hn
  simp only [hl, if_false]
  refine Ev.bind (toInt64S_ev xs hn) (Ev.bind (TL_spec_ev xs hn) (Ev.bind (toInt64S_ev xs hn) (Ev.bind (TL_impl_ev xs hn) ?_)))
  refine Ev.bind (eqInt64S_same _ hr) ?_
  simp only [if_true, bne_self_eq_false]
  refine Ev.succ ?_
  simp only [laws_FnExactTurnLevels.j0, Bool.false_eq_true, if_false]
  refine Ev.bind (toInt64S_ev xs hn) (Ev.bind (eqInt64S_same _ hn) ?_)
  simp only [if_true]
  refine Ev.bind (markInt64S_ev xs 1 (by omega) (by omega) hn) ?_
  have hneg : ¬ (1 + (xs.length : Int) < 0) := by omega
  simp only [hneg, if_false]
  refine Ev.bind (eqInt64S_same _ hr) ?_
  simp only [if_true, bne_self_eq_false]
  refine Ev.succ ?_
  simp only [laws_FnExactTurnLevels.j1, Bool.false_eq_true, if_false]
  refine Ev.bind (markInt64S_ev _ 1 (by omega) (by omega) hr) (Ev.bind (heldInt64S_ev 1 _ (by omega) (by omega) hr) ?_)
  have hneg2 : ¬ (1 + ((TL_ans xs).1.length : Int) < 0) := by omega
  simp only [hneg2, if_false, if_true]
  refine Ev.bind (toInt64S_ev xs hn) (Ev.bind (TL_impl_ev xs hn) (Ev.bind (eqInt64S_same _ hr) ?_))
  simp only [if_true, bne_self_eq_false]
  refine Ev.succ ?_
  simp only [laws_FnExactTurnLevels.j2, Bool.false_eq_true, if_false]
  refine Ev.bind (heldInt64S_ev 1 _ (by omega) (by omega) hr) ?_
  simp only [hneg2, if_false, if_true]
  exact Ev.now _

end Go.Proofs.Ytpbmimgohkbokaa.Pure
