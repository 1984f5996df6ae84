/- For every list of needs and every walk the program's PollCycle answers what the reference's does, and hands out memory of its own. -/
import Derived.Test.YtpbmimgohkbokaaPFnExactPollCyclex3
import Derived.Test.YtpbmimgohkbokaaBase
namespace Go.Proofs.Ytpbmimgohkbokaa.Pure
open Go.RowKit Go.Proofs.Ytpbmimgohkbokaa.PFnExactPollCycle Go.Proofs.Ytpbmimgohkbokaa.Base Go.Proofs.YtpbmimgohkbokaaW.PrintWords Go.Proofs.YtpbmimgohkbokaaW.PrintLast Go.Proofs.YtpbmimgohkbokaaW.PrintMore
set_option linter.unusedVariables false
set_option linter.unusedSimpArgs false

/-! l00In -/
theorem l00In_eq (a b c : Int) : spec_l00In.f a b c = some (decide (b ≤ a ∧ a ≤ c)) := by
  unfold spec_l00In.f
  by_cases h : b ≤ a
  · simp [h, ge_iff_le]
  · simp [h, ge_iff_le]

/-! l09Needs -/
theorem l09Many_eq (n : Int) : spec_l09Many.f n = some (decide (1 ≤ n ∧ n ≤ 12)) := by
  unfold spec_l09Many.f
  rw [l00In_eq]; rfl
theorem l09Needs_l0 (xs : List Int) (hn : xs.length ≤ 1099511627776) : ∀ d n, n + d = xs.length → Ev (fun k => spec_l09Needs.l0 k xs (n : Int)) (inAll 0 1000 (xs.drop n) && decide (1 ≤ (xs.length : Int) ∧ (xs.length : Int) ≤ 12)) := by
  intro d
  induction d with
  | zero =>
    intro n h
    apply Ev.succ
    have h1 : ¬ ((n : Int) < (xs.length : Int)) := by omega
    have h2 : xs.drop n = [] := List.drop_eq_nil_of_le (by omega)
    simp only [spec_l09Needs.l0, h1, if_false, h2, l09Many_eq, Option.bind_some]
    exact Ev.now _
  | succ d ih =>
    intro n h
    apply Ev.succ
    have h1 : (n : Int) < (xs.length : Int) := by omega
    have h2 : (0 : Int) ≤ (n : Int) := by omega
    have h3 := ih (n + 1) (by omega)
    rw [drop_rd (show n < xs.length by omega), inAll_cons]
    simp only [spec_l09Needs.l0, h1, h2, if_true, l00In_eq, Option.bind_some, w64_succ (show n < 9223372036854775807 by omega)]
    by_cases hc : 0 ≤ rd xs (n : Int) ∧ rd xs (n : Int) ≤ 1000
    · simp only [hc, decide_true, if_true, Bool.true_and, and_self]; exact h3
    · simp only [hc, decide_false, Bool.false_and, Bool.false_eq_true, if_false]; exact Ev.now false
theorem l09Needs_ev (xs : List Int) (hn : xs.length ≤ 1099511627776) : Ev (fun k => spec_l09Needs.f k xs) (inAll 0 1000 xs && decide (1 ≤ (xs.length : Int) ∧ (xs.length : Int) ≤ 12)) := by
  have h := l09Needs_l0 xs hn xs.length 0 (by omega)
  exact h

/-! within -/
theorem within_eq (a b c : Int) : impl_within.f a b c = some (decide (b ≤ a ∧ a ≤ c)) := by
  unfold impl_within.f
  by_cases h : b ≤ a
  · simp [h, ge_iff_le]
  · simp [h, ge_iff_le]

/-! areIn -/
theorem areIn_l0 (lo hi : Int) (xs : List Int) (hn : xs.length ≤ 1099511627776) : ∀ d n, n + d = xs.length → Ev (fun k => impl_areIn.l0 k lo hi xs (xs.length : Int) (n : Int)) (inAll lo hi (xs.drop n)) := by
  intro d
  induction d with
  | zero =>
    intro n h
    apply Ev.succ
    have h1 : ¬ ((n : Int) < (xs.length : Int)) := by omega
    have h2 : xs.drop n = [] := List.drop_eq_nil_of_le (by omega)
    simp only [impl_areIn.l0, h1, if_false, h2]
    exact Ev.now true
  | succ d ih =>
    intro n h
    apply Ev.succ
    have h1 : (n : Int) < (xs.length : Int) := by omega
    have h2 : (0 : Int) ≤ (n : Int) := by omega
    have h3 := ih (n + 1) (by omega)
    rw [drop_rd (show n < xs.length by omega), inAll_cons]
    simp only [impl_areIn.l0, h1, h2, if_true, within_eq, Option.bind_some, w64_succ (show n < 9223372036854775807 by omega)]
    by_cases hc : lo ≤ rd xs (n : Int) ∧ rd xs (n : Int) ≤ hi
    · simp only [hc, decide_true, if_true, Bool.true_and, and_self]; exact h3
    · simp only [hc, decide_false, Bool.false_and, Bool.false_eq_true, if_false]; exact Ev.now false
theorem areIn_ev (lo hi : Int) (xs : List Int) (hn : xs.length ≤ 1099511627776) : Ev (fun k => impl_areIn.f k xs lo hi) (inAll lo hi xs) := by
  have h := areIn_l0 lo hi xs hn xs.length 0 (by omega)
  exact h

/-! areNeeds -/
theorem areStations_eq (n : Int) : impl_areStations.f n = some (decide (1 ≤ n ∧ n ≤ 12)) := by
  unfold impl_areStations.f
  rw [within_eq]; rfl
theorem areNeeds_ev (xs : List Int) (hn : xs.length ≤ 1099511627776) : Ev (fun k => impl_areNeeds.f k xs) (inAll 0 1000 xs && decide (1 ≤ (xs.length : Int) ∧ (xs.length : Int) ≤ 12)) := by
  unfold impl_areNeeds.f
  simp only [areStations_eq, Option.bind_some]
  by_cases h : 1 ≤ (xs.length : Int) ∧ (xs.length : Int) ≤ 12
  · simp only [h, and_self, decide_true, if_true, Bool.and_true]
    exact Ev.bind (areIn_ev 0 1000 xs hn) (Ev.now _)
  · simp only [h, decide_false, Bool.false_eq_true, if_false, Bool.and_false]
    exact Ev.now _

/-! PollCycle -/
/-- What PollCycle answers: the times at which the stations are asked, and the time behind them. -/
def pollB (xs : List Int) (w : Int) : Bool := (inAll 0 1000 xs && decide (1 ≤ (xs.length : Int) ∧ (xs.length : Int) ≤ 12)) && decide (0 ≤ w ∧ w ≤ 1000)
def pollTimes (w : Int) : List Int → Int → List Int
  | [], _ => []
  | x :: xs, t => t :: pollTimes w xs (t + (x + w))
def pollEnd (w : Int) : List Int → Int → Int
  | [], t => t
  | x :: xs, t => pollEnd w xs (t + (x + w))
theorem pollTimes_length (w : Int) (xs : List Int) (t : Int) : (pollTimes w xs t).length = xs.length := by
  induction xs generalizing t with
  | nil => rfl
  | cons x xs ih => simp [pollTimes, ih]
theorem PC_spec (xs : List Int) (w : Int) (hn : xs.length ≤ 12) (hb : inAll 0 1000 xs = true) (hw0 : 0 ≤ w) (hw1 : w ≤ 1000) : ∀ (d n : Nat) (c : List Int) (t : Int), c.length = n → 0 ≤ t → t ≤ 2000 * n → n + d = xs.length →
    Ev (fun k => spec_PollCycle.l0 k xs w c t (n : Int)) (c ++ pollTimes w (xs.drop n) t, pollEnd w (xs.drop n) t, true) ∧ Ev (fun k => impl_PollCycle.l0 k w c t xs (xs.length : Int) (n : Int)) (c ++ pollTimes w (xs.drop n) t, pollEnd w (xs.drop n) t, true) := by
  intro d
  induction d with
  | zero =>
    intro n c t hc h0 ht h
    have h1 : ¬ ((n : Int) < (xs.length : Int)) := by omega
    have h2 : xs.drop n = [] := List.drop_eq_nil_of_le (by omega)
    rw [h2]
    simp only [pollTimes, pollEnd, List.append_nil]
    refine ⟨Ev.succ ?_, Ev.succ ?_⟩
    · simp only [spec_PollCycle.l0, h1, if_false]; exact Ev.now _
    · simp only [impl_PollCycle.l0, h1, if_false]; exact Ev.now _
  | succ d ih =>
    intro n c t hc h0 ht h
    have h1 : (n : Int) < (xs.length : Int) := by omega
    have h2 : (0 : Int) ≤ (n : Int) := by omega
    have h5 : c.length < 17592186044416 := by omega
    have hm := inAll_mem hb _ (rd_mem (show n < xs.length by omega))
    have e1 : wrap64 (rd xs (n : Int) + w) = rd xs (n : Int) + w := w64 (by omega) (by omega)
    have e2 : wrap64 (t + (rd xs (n : Int) + w)) = t + (rd xs (n : Int) + w) := w64 (by omega) (by omega)
    have h3 := ih (n + 1) (c ++ [t]) (t + (rd xs (n : Int) + w)) (by simp [hc]) (by omega) (by omega) (by omega)
    rw [drop_rd (show n < xs.length by omega)]
    simp only [pollTimes, pollEnd]
    rw [List.append_assoc] at h3
    refine ⟨Ev.succ ?_, Ev.succ ?_⟩
    · simp only [spec_PollCycle.l0, h1, h2, h5, e1, e2, if_true, w64_succ (show n < 9223372036854775807 by omega)]; exact h3.1
    · simp only [impl_PollCycle.l0, h1, h2, h5, e1, e2, if_true, w64_succ (show n < 9223372036854775807 by omega)]; exact h3.2
def pollAns (xs : List Int) (w : Int) : List Int × Int × Bool := if pollB xs w = true then (pollTimes w xs 0, pollEnd w xs 0, true) else ([], 0, false)
theorem PC_ev (xs : List Int) (w : Int) (hn : xs.length ≤ 1099511627776) : Ev (fun k => spec_PollCycle.f k xs w) (pollAns xs w) ∧ Ev (fun k => impl_PollCycle.f k xs w) (pollAns xs w) := by
  unfold spec_PollCycle.f impl_PollCycle.f
  by_cases hb : (inAll 0 1000 xs && decide (1 ≤ (xs.length : Int) ∧ (xs.length : Int) ≤ 12)) = true
  · have hA := l09Needs_ev xs hn
    have hB := areNeeds_ev xs hn
    rw [hb] at hA hB
    have hlen : inAll 0 1000 xs = true ∧ xs.length ≤ 12 := by
      rw [Bool.and_eq_true] at hb
      have := of_decide_eq_true hb.2
      exact ⟨hb.1, by omega⟩
    by_cases hw : 0 ≤ w ∧ w ≤ 1000
    · have ha : pollAns xs w = (pollTimes w xs 0, pollEnd w xs 0, true) := by unfold pollAns pollB; rw [hb, decide_eq_true hw]; rfl
      rw [ha]
      have h := PC_spec xs w hlen.2 hlen.1 hw.1 hw.2 xs.length 0 [] 0 rfl (by omega) (by omega) (by omega)
      refine ⟨Ev.bind hA ?_, Ev.bind hB ?_⟩
      · simp only [if_true, l00In_eq, Option.bind_some, hw, and_self, decide_true, Bool.not_true]
        apply Ev.succ; simp only [spec_PollCycle.j0, Bool.false_eq_true, if_false]; exact h.1
      · simp only [if_true, within_eq, Option.bind_some, hw, and_self, decide_true, Bool.not_true]
        apply Ev.succ; simp only [impl_PollCycle.j0, Bool.false_eq_true, if_false]; exact h.2
    · have ha : pollAns xs w = ([], 0, false) := by unfold pollAns pollB; rw [hb, decide_eq_false hw]; rfl
      rw [ha]
      refine ⟨Ev.bind hA ?_, Ev.bind hB ?_⟩
      · simp only [if_true, l00In_eq, Option.bind_some, hw, decide_false, Bool.not_false]
        apply Ev.succ; simp only [spec_PollCycle.j0, if_true]; exact Ev.now _
      · simp only [if_true, within_eq, Option.bind_some, hw, decide_false, Bool.not_false]
        apply Ev.succ; simp only [impl_PollCycle.j0, if_true]; exact Ev.now _
  · have hb' := eq_false_of_ne_true hb
    have hA := l09Needs_ev xs hn
    have hB := areNeeds_ev xs hn
    rw [hb'] at hA hB
    have ha : pollAns xs w = ([], 0, false) := by unfold pollAns pollB; rw [hb']; rfl
    rw [ha]
    refine ⟨Ev.bind hA ?_, Ev.bind hB ?_⟩
    · simp only [Bool.false_eq_true, if_false]
      apply Ev.succ; simp only [spec_PollCycle.j0, if_true]; exact Ev.now _
    · simp only [Bool.false_eq_true, if_false]
      apply Ev.succ; simp only [impl_PollCycle.j0, if_true]; exact Ev.now _
theorem pollAns_len (xs : List Int) (w : Int) (hn : xs.length ≤ 1099511627776) : (pollAns xs w).1.length ≤ 1099511627776 := by
  unfold pollAns
  split
  · simpa [pollTimes_length] using hn
  · simp

/-! toInt64S -/
theorem toInt64S_l0 (xs : List Int) (hn : xs.length ≤ 1099511627776) : ∀ d n, n + d = xs.length → Ev (fun k => laws_toInt64S.l0 k xs (xs.take n ++ List.replicate d 0) (n : Int)) xs := by
  intro d
  induction d with
  | zero =>
    intro n h
    apply Ev.succ
    have h1 : ¬ ((n : Int) < (xs.length : Int)) := by omega
    have h2 : xs.take n = xs := List.take_of_length_le (by omega)
    simp only [laws_toInt64S.l0, h1, if_false, h2, List.replicate_zero, List.append_nil]
    exact Ev.now _
  | succ d ih =>
    intro n h
    apply Ev.succ
    have h1 : (n : Int) < (xs.length : Int) := by omega
    have h2 : (0 : Int) ≤ (n : Int) := by omega
    have h3 := ih (n + 1) (by omega)
    have h4 : (n : Int) < ((xs.take n ++ List.replicate (d + 1) (0 : Int)).length : Int) := by
      simp only [List.length_append, List.length_take, List.length_replicate]; omega
    have h5 : (xs.take n ++ List.replicate (d + 1) (0 : Int)).set n (rd xs (n : Int)) = xs.take (n + 1) ++ List.replicate d 0 := by
      rw [List.replicate_succ, set_mid _ _ _ _ _ (by rw [List.length_take]; omega), take_rd (show n < xs.length by omega)]
      simp
    simp only [laws_toInt64S.l0, h1, h2, h4, if_true, Int.toNat_natCast, h5, w64_succ (show n < 9223372036854775807 by omega)]
    exact h3
theorem toInt64S_ev (xs : List Int) (hn : xs.length ≤ 1099511627776) : Ev (fun k => laws_toInt64S.f k xs) xs := by
  unfold laws_toInt64S.f
  have h1 : (0 : Int) ≤ (xs.length : Int) := by omega
  have h2 : xs.length ≤ 35184372088832 := by omega
  simp only [h1, if_true, Int.toNat_natCast, h2]
  have h := toInt64S_l0 xs hn xs.length 0 (by omega)
  exact h

/-! eqInt64S -/
theorem eqInt64S_l0 (xs ys : List Int) (hl : xs.length = ys.length) (hn : xs.length ≤ 1099511627776) : ∀ d n, n + d = xs.length → Ev (fun k => laws_eqInt64S.l0 k xs ys (n : Int)) (decide (xs.drop n = ys.drop n)) := by
  intro d
  induction d with
  | zero =>
    intro n h
    apply Ev.succ
    have h1 : ¬ ((n : Int) < (xs.length : Int)) := by omega
    have h2 : xs.drop n = [] := List.drop_eq_nil_of_le (by omega)
    have h3 : ys.drop n = [] := List.drop_eq_nil_of_le (by omega)
    simp only [laws_eqInt64S.l0, h1, if_false, h2, h3, decide_true]
    exact Ev.now true
  | succ d ih =>
    intro n h
    apply Ev.succ
    have h1 : (n : Int) < (xs.length : Int) := by omega
    have h1' : (n : Int) < (ys.length : Int) := by omega
    have h2 : (0 : Int) ≤ (n : Int) := by omega
    have h3 := ih (n + 1) (by omega)
    rw [drop_rd (show n < xs.length by omega), drop_rd (show n < ys.length by omega)]
    simp only [laws_eqInt64S.l0, h1, h1', h2, if_true, w64_succ (show n < 9223372036854775807 by omega), List.cons.injEq]
    by_cases hc : rd xs (n : Int) = rd ys (n : Int)
    · simp only [hc, if_true, true_and]; exact h3
    · simp only [hc, if_false, false_and, decide_false]; exact Ev.now false
theorem eqInt64S_ev (xs ys : List Int) (hn : xs.length ≤ 1099511627776) : Ev (fun k => laws_eqInt64S.f k xs ys) (decide (xs = ys)) := by
  unfold laws_eqInt64S.f
  by_cases hl : xs.length = ys.length
  · have h1 : (xs.length : Int) = (ys.length : Int) := by omega
    simp only [h1, if_true]
    have h := eqInt64S_l0 xs ys hl hn xs.length 0 (by omega)
    exact h
  · have h1 : ¬ (xs.length : Int) = (ys.length : Int) := by omega
    have h2 : ¬ xs = ys := fun h => hl (by rw [h])
    simp only [h1, if_false, h2, decide_false]
    exact Ev.now false
theorem eqInt64S_same (xs : List Int) (hn : xs.length ≤ 1099511627776) : Ev (fun k => laws_eqInt64S.f k xs xs) true := by
  have h := eqInt64S_ev xs xs hn
  rw [decide_eq_true rfl] at h
  exact h

/-! markInt64S -/
theorem markInt64S_l0 (m : Int) (hm : 0 ≤ m) (hm2 : m ≤ 4611686018427387904) : ∀ (d : Nat) (ws xs : List Int) (n : Nat), ws.length = n → xs.length = d → n + d ≤ 1099511627776 → Ev (fun k => laws_markInt64S.l0 k (ws ++ xs) (m + n) (n : Int)) (m + n + d, ws ++ upFrom (m + n) d) := by
  intro d
  induction d with
  | zero =>
    intro ws xs n h hx hn
    apply Ev.succ
    obtain rfl : xs = [] := List.eq_nil_of_length_eq_zero hx
    have h1 : ¬ ((n : Int) < ((ws ++ ([] : List Int)).length : Int)) := by simp; omega
    simp only [laws_markInt64S.l0, h1, if_false, upFrom]
    exact Ev.of (fun _ => LeO.refl _) (k := 0) (by simp)
  | succ d ih =>
    intro ws xs n h hx hn
    apply Ev.succ
    obtain ⟨x, xs, rfl⟩ : ∃ x ys, xs = x :: ys := by
      cases xs with
      | nil => simp at hx
      | cons x ys => exact ⟨x, ys, rfl⟩
    have h1 : ((n : Int) < ((ws ++ x :: xs).length : Int)) := by simp; omega
    have h2 : (0 : Int) ≤ (n : Int) := by omega
    have h3 := ih (ws ++ [m + n]) xs (n + 1) (by simp [h]) (by simpa using hx) (by omega)
    have h5 : wrap64 (m + n + 1) = m + ((n + 1 : Nat) : Int) := by rw [w64 (by omega) (by omega)]; omega
    simp only [laws_markInt64S.l0, h1, h2, if_true, Int.toNat_natCast, set_mid _ _ _ _ _ h, h5, w64_succ (show n < 9223372036854775807 by omega)]
    have e1 : ws ++ [m + (n : Int)] ++ xs = ws ++ (m + n) :: xs := by simp
    have e2 : ws ++ [m + (n : Int)] ++ upFrom (m + ((n + 1 : Nat) : Int)) d = ws ++ upFrom (m + n) (d + 1) := by
      rw [upFrom, List.append_assoc]
      have e3 : m + ((n + 1 : Nat) : Int) = m + n + 1 := by omega
      rw [e3]; rfl
    have e4 : m + ((n + 1 : Nat) : Int) + (d : Int) = m + n + ((d + 1 : Nat) : Int) := by omega
    rw [e1, e2, e4] at h3
    exact h3
theorem markInt64S_ev (xs : List Int) (m : Int) (hm : 0 ≤ m) (hm2 : m ≤ 4611686018427387904) (hn : xs.length ≤ 1099511627776) : Ev (fun k => laws_markInt64S.f k xs m) (m + (xs.length : Int), upFrom m xs.length) := by
  have h := markInt64S_l0 m hm hm2 xs.length [] xs 0 rfl rfl (by omega)
  have e : m + ((0 : Nat) : Int) = m := by omega
  rw [e] at h
  exact h

/-! heldInt64S -/
theorem heldInt64S_l0 (m : Int) (hm : 0 ≤ m) (hm2 : m ≤ 4611686018427387904) : ∀ (d : Nat) (ws : List Int) (n : Nat), ws.length = n → n + d ≤ 1099511627776 → Ev (fun k => laws_heldInt64S.l0 k (ws ++ upFrom (m + n) d) (m + n) (n : Int)) (m + n + d) := by
  intro d
  induction d with
  | zero =>
    intro ws n h hn
    apply Ev.succ
    have h1 : ¬ ((n : Int) < ((ws ++ upFrom (m + n) 0).length : Int)) := by simp [upFrom]; omega
    simp only [laws_heldInt64S.l0, h1, if_false]
    exact Ev.of (fun _ => LeO.refl _) (k := 0) (by simp)
  | succ d ih =>
    intro ws n h hn
    apply Ev.succ
    have h1 : ((n : Int) < ((ws ++ upFrom (m + n) (d + 1)).length : Int)) := by simp [upFrom_length]; omega
    have h2 : (0 : Int) ≤ (n : Int) := by omega
    have h3 := ih (ws ++ [m + n]) (n + 1) (by simp [h]) (by omega)
    have h5 : wrap64 (m + n + 1) = m + ((n + 1 : Nat) : Int) := by rw [w64 (by omega) (by omega)]; omega
    have h6 : rd (ws ++ upFrom (m + n) (d + 1)) (n : Int) = m + n := by
      rw [rd_nat, List.getD_eq_getElem?_getD, List.getElem?_append_right (by omega), h, Nat.sub_self]; rfl
    simp only [laws_heldInt64S.l0, h1, h2, if_true, h5, h6, w64_succ (show n < 9223372036854775807 by omega)]
    have e2 : ws ++ [m + (n : Int)] ++ upFrom (m + ((n + 1 : Nat) : Int)) d = ws ++ upFrom (m + n) (d + 1) := by
      rw [upFrom, List.append_assoc]
      have e3 : m + ((n + 1 : Nat) : Int) = m + n + 1 := by omega
      rw [e3]; rfl
    have e4 : m + ((n + 1 : Nat) : Int) + (d : Int) = m + n + ((d + 1 : Nat) : Int) := by omega
    rw [e2, e4] at h3
    exact h3
theorem heldInt64S_ev (m : Int) (l : Nat) (hm : 0 ≤ m) (hm2 : m ≤ 4611686018427387904) (hn : l ≤ 1099511627776) : Ev (fun k => laws_heldInt64S.f k (upFrom m l) m) (m + (l : Int)) := by
  have h := heldInt64S_l0 m hm hm2 l [] 0 rfl (by omega)
  have e : m + ((0 : Nat) : Int) = m := by omega
  rw [e] at h
  exact h

theorem FnExactPollCycle : laws_FnExactPollCycle.Pure := by
  intro xs w h0 h1 hx hw
  refine Ev.rounds ?_
  unfold laws_FnExactPollCycle.f
  by_cases hl : (xs.length : Int) > 1048576
  · simp only [hl, if_true]; exact Ev.now _
  have hn : xs.length ≤ 1099511627776 := by omega
  have hr := pollAns_len xs w hn
  obtain ⟨hs, hi⟩ := PC_ev xs w hn
  have hneg : ¬ (1 + (xs.length : Int) < 0) := by omega
  have hneg2 : ¬ (1 + ((pollAns xs w).1.length : Int) < 0) := by omega
  simp only [hl, if_false]
  refine Ev.bind (toInt64S_ev xs hn) (Ev.bind hs (Ev.bind (toInt64S_ev xs hn) (Ev.bind hi (Ev.bind (eqInt64S_same _ hr) ?_))))
  simp only [if_true, bne_self_eq_false]
  refine Ev.succ ?_
  simp only [laws_FnExactPollCycle.j0, Bool.false_eq_true, if_false]
  refine Ev.bind (toInt64S_ev xs hn) (Ev.bind (eqInt64S_same _ hn) ?_)
  simp only [if_true]
  refine Ev.bind (markInt64S_ev xs 1 (by omega) (by omega) hn) ?_
  simp only [hneg, if_false]
  refine Ev.bind (eqInt64S_same _ hr) ?_
  simp only [if_true, bne_self_eq_false]
  refine Ev.succ ?_
  simp only [laws_FnExactPollCycle.j1, Bool.false_eq_true, if_false]
  refine Ev.bind (markInt64S_ev _ 1 (by omega) (by omega) hr) (Ev.bind (heldInt64S_ev 1 _ (by omega) (by omega) hr) ?_)
  simp only [hneg2, if_false, if_true]
  refine Ev.bind (toInt64S_ev xs hn) (Ev.bind hi (Ev.bind (eqInt64S_same _ hr) ?_))
  simp only [if_true, bne_self_eq_false]
  refine Ev.succ ?_
  simp only [laws_FnExactPollCycle.j2, Bool.false_eq_true, if_false]
  refine Ev.bind (heldInt64S_ev 1 _ (by omega) (by omega) hr) ?_
  simp only [hneg2, if_false, if_true]
  exact Ev.now _

end Go.Proofs.Ytpbmimgohkbokaa.Pure
