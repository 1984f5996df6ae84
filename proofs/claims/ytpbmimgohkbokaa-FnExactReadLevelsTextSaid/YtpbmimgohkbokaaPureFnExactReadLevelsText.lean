/- For every text the program's ReadLevelsText answers what the reference's does, and hands out memory of its own. -/
import Derived.Test.YtpbmimgohkbokaaPFnExactReadLevelsTextx2
import Derived.Test.YtpbmimgohkbokaaBase
namespace Go.Proofs.Ytpbmimgohkbokaa.Pure
open Go.RowKit Go.Proofs.Ytpbmimgohkbokaa.PFnExactReadLevelsText Go.Proofs.Ytpbmimgohkbokaa.Base Go.Proofs.YtpbmimgohkbokaaW.PrintWords Go.Proofs.YtpbmimgohkbokaaW.PrintLast Go.Proofs.YtpbmimgohkbokaaW.PrintMore
set_option linter.unusedVariables false
set_option linter.unusedSimpArgs false

/-! within -/
theorem within_eq (a b c : Int) : impl_within.f a b c = some (decide (b ≤ a ∧ a ≤ c)) := by
  unfold impl_within.f
  by_cases h : b ≤ a
  · simp [h, ge_iff_le]
  · simp [h, ge_iff_le]

/-! areIn -/
theorem areIn_l0 (lo hi : Int) (xs : List Int) (hn : xs.length ≤ 1099511627776) : ∀ d n, n + d = xs.length → Ev (fun k => impl_areIn.l0 k lo hi xs (xs.length : Int) (n : Int)) (inAll lo hi (xs.drop n)) := by
  intro d
  induction d with
  | zero =>
    intro n h
    apply Ev.succ
    have h1 : ¬ ((n : Int) < (xs.length : Int)) := by omega
    have h2 : xs.drop n = [] := List.drop_eq_nil_of_le (by omega)
    simp only [impl_areIn.l0, h1, if_false, h2]
    exact Ev.now true
  | succ d ih =>
    intro n h
    apply Ev.succ
    have h1 : (n : Int) < (xs.length : Int) := by omega
    have h2 : (0 : Int) ≤ (n : Int) := by omega
    have h3 := ih (n + 1) (by omega)
    rw [drop_rd (show n < xs.length by omega), inAll_cons]
    simp only [impl_areIn.l0, h1, h2, if_true, within_eq, Option.bind_some, w64_succ (show n < 9223372036854775807 by omega)]
    by_cases hc : lo ≤ rd xs (n : Int) ∧ rd xs (n : Int) ≤ hi
    · simp only [hc, decide_true, if_true, Bool.true_and, and_self]; exact h3
    · simp only [hc, decide_false, Bool.false_and, Bool.false_eq_true, if_false]; exact Ev.now false
theorem areIn_ev (lo hi : Int) (xs : List Int) (hn : xs.length ≤ 1099511627776) : Ev (fun k => impl_areIn.f k xs lo hi) (inAll lo hi xs) := by
  have h := areIn_l0 lo hi xs hn xs.length 0 (by omega)
  exact h

/-! areLevels -/
theorem areLevels_ev (xs : List Int) (hn : xs.length ≤ 1099511627776) : Ev (fun k => impl_areLevels.f k xs) (levelsB xs) := by
  unfold impl_areLevels.f levelsB
  by_cases h : xs.length ≤ 800
  · have h1 : (xs.length : Int) ≤ 800 := by omega
    simp only [h1, if_true, h, decide_true, Bool.and_true]
    exact Ev.bind (areIn_ev (-1) 1 xs hn) (Ev.now _)
  · have h1 : ¬ (xs.length : Int) ≤ 800 := by omega
    simp only [h1, if_false, h, decide_false, Bool.and_false]
    exact Ev.now _

/-! eqInt64S -/
theorem eqInt64S_l0 (xs ys : List Int) (hl : xs.length = ys.length) (hn : xs.length ≤ 1099511627776) : ∀ d n, n + d = xs.length → Ev (fun k => laws_eqInt64S.l0 k xs ys (n : Int)) (decide (xs.drop n = ys.drop n)) := by
  intro d
  induction d with
  | zero =>
    intro n h
    apply Ev.succ
    have h1 : ¬ ((n : Int) < (xs.length : Int)) := by omega
    have h2 : xs.drop n = [] := List.drop_eq_nil_of_le (by omega)
    have h3 : ys.drop n = [] := List.drop_eq_nil_of_le (by omega)
    simp only [laws_eqInt64S.l0, h1, if_false, h2, h3, decide_true]
    exact Ev.now true
  | succ d ih =>
    intro n h
    apply Ev.succ
    have h1 : (n : Int) < (xs.length : Int) := by omega
    have h1' : (n : Int) < (ys.length : Int) := by omega
    have h2 : (0 : Int) ≤ (n : Int) := by omega
    have h3 := ih (n + 1) (by omega)
    rw [drop_rd (show n < xs.length by omega), drop_rd (show n < ys.length by omega)]
    simp only [laws_eqInt64S.l0, h1, h1', h2, if_true, w64_succ (show n < 9223372036854775807 by omega), List.cons.injEq]
    by_cases hc : rd xs (n : Int) = rd ys (n : Int)
    · simp only [hc, if_true, true_and]; exact h3
    · simp only [hc, if_false, false_and, decide_false]; exact Ev.now false
theorem eqInt64S_ev (xs ys : List Int) (hn : xs.length ≤ 1099511627776) : Ev (fun k => laws_eqInt64S.f k xs ys) (decide (xs = ys)) := by
  unfold laws_eqInt64S.f
  by_cases hl : xs.length = ys.length
  · have h1 : (xs.length : Int) = (ys.length : Int) := by omega
    simp only [h1, if_true]
    have h := eqInt64S_l0 xs ys hl hn xs.length 0 (by omega)
    exact h
  · have h1 : ¬ (xs.length : Int) = (ys.length : Int) := by omega
    have h2 : ¬ xs = ys := fun h => hl (by rw [h])
    simp only [h1, if_false, h2, decide_false]
    exact Ev.now false
theorem eqInt64S_same (xs : List Int) (hn : xs.length ≤ 1099511627776) : Ev (fun k => laws_eqInt64S.f k xs xs) true := by
  have h := eqInt64S_ev xs xs hn
  rw [decide_eq_true rfl] at h
  exact h

/-! markInt64S -/
theorem markInt64S_l0 (m : Int) (hm : 0 ≤ m) (hm2 : m ≤ 4611686018427387904) : ∀ (d : Nat) (ws xs : List Int) (n : Nat), ws.length = n → xs.length = d → n + d ≤ 1099511627776 → Ev (fun k => laws_markInt64S.l0 k (ws ++ xs) (m + n) (n : Int)) (m + n + d, ws ++ upFrom (m + n) d) := by
  intro d
  induction d with
  | zero =>
    intro ws xs n h hx hn
    apply Ev.succ
    obtain rfl : xs = [] := List.eq_nil_of_length_eq_zero hx
    have h1 : ¬ ((n : Int) < ((ws ++ ([] : List Int)).length : Int)) := by simp; omega
    simp only [laws_markInt64S.l0, h1, if_false, upFrom]
    exact Ev.of (fun _ => LeO.refl _) (k := 0) (by simp)
  | succ d ih =>
    intro ws xs n h hx hn
    apply Ev.succ
    obtain ⟨x, xs, rfl⟩ : ∃ x ys, xs = x :: ys := by
      cases xs with
      | nil => simp at hx
      | cons x ys => exact ⟨x, ys, rfl⟩
    have h1 : ((n : Int) < ((ws ++ x :: xs).length : Int)) := by simp; omega
    have h2 : (0 : Int) ≤ (n : Int) := by omega
    have h3 := ih (ws ++ [m + n]) xs (n + 1) (by simp [h]) (by simpa using hx) (by omega)
    have h5 : wrap64 (m + n + 1) = m + ((n + 1 : Nat) : Int) := by rw [w64 (by omega) (by omega)]; omega
    simp only [laws_markInt64S.l0, h1, h2, if_true, Int.toNat_natCast, set_mid _ _ _ _ _ h, h5, w64_succ (show n < 9223372036854775807 by omega)]
    have e1 : ws ++ [m + (n : Int)] ++ xs = ws ++ (m + n) :: xs := by simp
    have e2 : ws ++ [m + (n : Int)] ++ upFrom (m + ((n + 1 : Nat) : Int)) d = ws ++ upFrom (m + n) (d + 1) := by
      rw [upFrom, List.append_assoc]
      have e3 : m + ((n + 1 : Nat) : Int) = m + n + 1 := by omega
      rw [e3]; rfl
    have e4 : m + ((n + 1 : Nat) : Int) + (d : Int) = m + n + ((d + 1 : Nat) : Int) := by omega
    rw [e1, e2, e4] at h3
    exact h3
theorem markInt64S_ev (xs : List Int) (m : Int) (hm : 0 ≤ m) (hm2 : m ≤ 4611686018427387904) (hn : xs.length ≤ 1099511627776) : Ev (fun k => laws_markInt64S.f k xs m) (m + (xs.length : Int), upFrom m xs.length) := by
  have h := markInt64S_l0 m hm hm2 xs.length [] xs 0 rfl rfl (by omega)
  have e : m + ((0 : Nat) : Int) = m := by omega
  rw [e] at h
  exact h

/-! heldInt64S -/
theorem heldInt64S_l0 (m : Int) (hm : 0 ≤ m) (hm2 : m ≤ 4611686018427387904) : ∀ (d : Nat) (ws : List Int) (n : Nat), ws.length = n → n + d ≤ 1099511627776 → Ev (fun k => laws_heldInt64S.l0 k (ws ++ upFrom (m + n) d) (m + n) (n : Int)) (m + n + d) := by
  intro d
  induction d with
  | zero =>
    intro ws n h hn
    apply Ev.succ
    have h1 : ¬ ((n : Int) < ((ws ++ upFrom (m + n) 0).length : Int)) := by simp [upFrom]; omega
    simp only [laws_heldInt64S.l0, h1, if_false]
    exact Ev.of (fun _ => LeO.refl _) (k := 0) (by simp)
  | succ d ih =>
    intro ws n h hn
    apply Ev.succ
    have h1 : ((n : Int) < ((ws ++ upFrom (m + n) (d + 1)).length : Int)) := by simp [upFrom_length]; omega
    have h2 : (0 : Int) ≤ (n : Int) := by omega
    have h3 := ih (ws ++ [m + n]) (n + 1) (by simp [h]) (by omega)
    have h5 : wrap64 (m + n + 1) = m + ((n + 1 : Nat) : Int) := by rw [w64 (by omega) (by omega)]; omega
    have h6 : rd (ws ++ upFrom (m + n) (d + 1)) (n : Int) = m + n := by
      rw [rd_nat, List.getD_eq_getElem?_getD, List.getElem?_append_right (by omega), h, Nat.sub_self]; rfl
    simp only [laws_heldInt64S.l0, h1, h2, if_true, h5, h6, w64_succ (show n < 9223372036854775807 by omega)]
    have e2 : ws ++ [m + (n : Int)] ++ upFrom (m + ((n + 1 : Nat) : Int)) d = ws ++ upFrom (m + n) (d + 1) := by
      rw [upFrom, List.append_assoc]
      have e3 : m + ((n + 1 : Nat) : Int) = m + n + 1 := by omega
      rw [e3]; rfl
    have e4 : m + ((n + 1 : Nat) : Int) + (d : Int) = m + n + ((d + 1 : Nat) : Int) := by omega
    rw [e2, e4] at h3
    exact h3
theorem heldInt64S_ev (m : Int) (l : Nat) (hm : 0 ≤ m) (hm2 : m ≤ 4611686018427387904) (hn : l ≤ 1099511627776) : Ev (fun k => laws_heldInt64S.f k (upFrom m l) m) (m + (l : Int)) := by
  have h := heldInt64S_l0 m hm hm2 l [] 0 rfl (by omega)
  have e : m + ((0 : Nat) : Int) = m := by omega
  rw [e] at h
  exact h

theorem RL_spec (s : ByteArray) (hn : s.size ≤ 800) : ∀ (d n : Nat) (c : List Int), c.length = n → inAll (-1) 1 c = true → n + d = s.size →
    ∃ r, Ev (fun k => spec_ReadLevelsText.l0 k s c (n : Int)) r ∧ Ev (fun k => impl_ReadLevelsText.l0 k s c (s.size : Int) (n : Int)) r ∧ r.1.length ≤ 800 := by
  intro d
  induction d with
  | zero =>
    intro n c hc hb h
    have h1 : ¬ ((n : Int) < (s.size : Int)) := by omega
    have h2 : levelsB c = true := by unfold levelsB; rw [hb, decide_eq_true (by omega)]; rfl
    refine ⟨(c, true), Ev.succ ?_, Ev.succ ?_, by show c.length ≤ 800; omega⟩
    · simp only [spec_ReadLevelsText.l0, h1, if_false]; exact Ev.now _
    · simp only [impl_ReadLevelsText.l0, h1, if_false]
      refine Ev.bind (areLevels_ev c (by omega)) ?_
      simp only [h2, if_true]; exact Ev.now _
  | succ d ih =>
    intro n c hc hb h
    have h1 : (n : Int) < (s.size : Int) := by omega
    have h2 : (0 : Int) ≤ (n : Int) := by omega
    have h5 : c.length < 17592186044416 := by omega
    have hw := w64_succ (show n < 9223372036854775807 by omega)
    have app : ∀ x : Int, -1 ≤ x → x ≤ 1 → inAll (-1) 1 (c ++ [x]) = true := by
      intro x hx1 hx2
      unfold inAll at hb ⊢
      rw [List.all_append, hb]
      simp [hx1, hx2]
    by_cases c1 : bt s (n : Int) = 45
    · obtain ⟨r, hr1, hr2, hr3⟩ := ih (n + 1) (c ++ [(-1)]) (by simp [hc]) (app _ (by omega) (by omega)) (by omega)
      refine ⟨r, Ev.succ ?_, Ev.succ ?_, hr3⟩
      · simp only [spec_ReadLevelsText.l0, h1, h2, h5, c1, if_true, hw]; exact hr1
      · simp only [impl_ReadLevelsText.l0, h1, h2, h5, c1, if_true, hw]; exact hr2
    by_cases c2 : bt s (n : Int) = 48
    · obtain ⟨r, hr1, hr2, hr3⟩ := ih (n + 1) (c ++ [0]) (by simp [hc]) (app _ (by omega) (by omega)) (by omega)
      have c1' : ¬ (48 : Int) = 45 := by omega
      refine ⟨r, Ev.succ ?_, Ev.succ ?_, hr3⟩
      · simp only [spec_ReadLevelsText.l0, h1, h2, h5, c1', c2, if_true, if_false, hw]; exact hr1
      · simp only [impl_ReadLevelsText.l0, h1, h2, h5, c1', c2, if_true, if_false, hw]; exact hr2
    by_cases c3 : bt s (n : Int) = 43
    · obtain ⟨r, hr1, hr2, hr3⟩ := ih (n + 1) (c ++ [1]) (by simp [hc]) (app _ (by omega) (by omega)) (by omega)
      have c1' : ¬ (43 : Int) = 45 := by omega
      have c2' : ¬ (43 : Int) = 48 := by omega
      refine ⟨r, Ev.succ ?_, Ev.succ ?_, hr3⟩
      · simp only [spec_ReadLevelsText.l0, h1, h2, h5, c1', c2', c3, if_true, if_false, hw]; exact hr1
      · simp only [impl_ReadLevelsText.l0, h1, h2, h5, c1', c2', c3, if_true, if_false, hw]; exact hr2
    refine ⟨([], false), Ev.succ ?_, Ev.succ ?_, by simp⟩
    · simp only [spec_ReadLevelsText.l0, h1, h2, c1, c2, c3, if_true, if_false]; exact Ev.now _
    · simp only [impl_ReadLevelsText.l0, h1, h2, c1, c2, c3, if_true, if_false]; exact Ev.now _
theorem RL_long (s : ByteArray) (hn : 800 < s.size) (hn2 : s.size ≤ 1048576) : ∀ (d n : Nat) (c : List Int), c.length = n → n + d = s.size →
    Ev (fun k => impl_ReadLevelsText.l0 k s c (s.size : Int) (n : Int)) ([], false) := by
  intro d
  induction d with
  | zero =>
    intro n c hc h
    have h1 : ¬ ((n : Int) < (s.size : Int)) := by omega
    have h2 : levelsB c = false := by unfold levelsB; rw [decide_eq_false (by omega), Bool.and_false]
    apply Ev.succ
    simp only [impl_ReadLevelsText.l0, h1, if_false]
    refine Ev.bind (areLevels_ev c (by omega)) ?_
    simp only [h2, if_false, Bool.false_eq_true]; exact Ev.now _
  | succ d ih =>
    intro n c hc h
    have h1 : (n : Int) < (s.size : Int) := by omega
    have h2 : (0 : Int) ≤ (n : Int) := by omega
    have h5 : c.length < 17592186044416 := by omega
    have hw := w64_succ (show n < 9223372036854775807 by omega)
    apply Ev.succ
    simp only [impl_ReadLevelsText.l0, h1, h2, h5, if_true, hw]
    refine Ev.cond (fun _ => ih (n + 1) _ (by simp [hc]) (by omega)) (fun _ => ?_)
    refine Ev.cond (fun _ => ih (n + 1) _ (by simp [hc]) (by omega)) (fun _ => ?_)
    exact Ev.cond (fun _ => ih (n + 1) _ (by simp [hc]) (by omega)) (fun _ => Ev.now _)
theorem RL_ev (s : ByteArray) (hn : s.size ≤ 1048576) : ∃ r, Ev (fun k => spec_ReadLevelsText.f k s) r ∧ Ev (fun k => impl_ReadLevelsText.f k s) r ∧ r.1.length ≤ 800 := by
  unfold spec_ReadLevelsText.f impl_ReadLevelsText.f
  by_cases hz : (s.size : Int) > 800
  · refine ⟨([], false), ?_, ?_, by simp⟩
    · simp only [hz, if_true]; exact Ev.now _
    · exact RL_long s (by omega) hn s.size 0 [] rfl (by omega)
  · obtain ⟨r, hr1, hr2, hr3⟩ := RL_spec s (by omega) s.size 0 [] rfl rfl (by omega)
    refine ⟨r, ?_, ?_, hr3⟩
    · simp only [hz, if_false]; exact hr1
    · exact hr2
theorem FnExactReadLevelsText : laws_FnExactReadLevelsText.Pure := by
  intro s h0
  refine Ev.rounds ?_
  unfold laws_FnExactReadLevelsText.f
  by_cases hl : (s.size : Int) > 1048576
  · simp only [hl, if_true]; exact Ev.now _
  obtain ⟨r, hs, hi, hr'⟩ := RL_ev s (by omega)
  have hr : r.1.length ≤ 1099511627776 := by omega
  have hneg : ¬ (1 + (r.1.length : Int) < 0) := by omega
  simp only [hl, if_false]
  refine Ev.bind hs (Ev.bind hi (Ev.bind (eqInt64S_same _ hr) ?_))
  simp only [if_true, bne_self_eq_false]
  refine Ev.succ ?_
  simp only [laws_FnExactReadLevelsText.j0, Bool.false_eq_true, if_false]
  refine Ev.bind (markInt64S_ev _ 1 (by omega) (by omega) hr) (Ev.bind (heldInt64S_ev 1 _ (by omega) (by omega) hr) ?_)
  simp only [hneg, if_true, if_false]
  refine Ev.bind hi (Ev.bind (eqInt64S_same _ hr) ?_)
  simp only [if_true, bne_self_eq_false]
  refine Ev.succ ?_
  simp only [laws_FnExactReadLevelsText.j1, Bool.false_eq_true, if_false]
  refine Ev.bind (heldInt64S_ev 1 _ (by omega) (by omega) hr) ?_
  simp only [hneg, if_true, if_false]
  exact Ev.now _

end Go.Proofs.Ytpbmimgohkbokaa.Pure
