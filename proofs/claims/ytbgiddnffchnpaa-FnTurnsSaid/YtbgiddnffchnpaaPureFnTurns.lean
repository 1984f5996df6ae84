/- For all bytes the needs, walks, holds and frames that are drawn of them are asked, sent and reserved as FnTurns tells. -/
import Derived.Test.YtbgiddnffchnpaaQFnTurnsx4
import Derived.Test.YtbgiddnffchnpaaBase
namespace Go.Proofs.Ytbgiddnffchnpaa.Pure
open Go.RowKit Go.Proofs.Ytbgiddnffchnpaa.QFnTurns Go.Proofs.Ytbgiddnffchnpaa.Base Go.Proofs.YtbgiddnffchnpaaW.PrintWords Go.Proofs.YtbgiddnffchnpaaW.PrintLast Go.Proofs.YtbgiddnffchnpaaW.PrintMore
set_option linter.unusedVariables false
set_option linter.unusedSimpArgs false

/-! within -/
theorem within_eq (a b c : Int) : impl_within.f a b c = some (decide (b ≤ a ∧ a ≤ c)) := by
  unfold impl_within.f
  by_cases h : b ≤ a
  · simp [h, ge_iff_le]
  · simp [h, ge_iff_le]

/-! areIn -/
theorem areIn_l0 (lo hi : Int) (xs : List Int) (hn : xs.length ≤ 1099511627776) : ∀ d n, n + d = xs.length → Ev (fun k => impl_areIn.l0 k lo hi xs (xs.length : Int) (n : Int)) (inAll lo hi (xs.drop n)) := by
  intro d
  induction d with
  | zero =>
    intro n h
    apply Ev.succ
    have h1 : ¬ ((n : Int) < (xs.length : Int)) := by omega
    have h2 : xs.drop n = [] := List.drop_eq_nil_of_le (by omega)
    simp only [impl_areIn.l0, h1, if_false, h2]
    exact Ev.now true
  | succ d ih =>
    intro n h
    apply Ev.succ
    have h1 : (n : Int) < (xs.length : Int) := by omega
    have h2 : (0 : Int) ≤ (n : Int) := by omega
    have h3 := ih (n + 1) (by omega)
    rw [drop_rd (show n < xs.length by omega), inAll_cons]
    simp only [impl_areIn.l0, h1, h2, if_true, within_eq, Option.bind_some, w64_succ (show n < 9223372036854775807 by omega)]
    by_cases hc : lo ≤ rd xs (n : Int) ∧ rd xs (n : Int) ≤ hi
    · simp only [hc, decide_true, if_true, Bool.true_and, and_self]; exact h3
    · simp only [hc, decide_false, Bool.false_and, Bool.false_eq_true, if_false]; exact Ev.now false
theorem areIn_ev (lo hi : Int) (xs : List Int) (hn : xs.length ≤ 1099511627776) : Ev (fun k => impl_areIn.f k xs lo hi) (inAll lo hi xs) := by
  have h := areIn_l0 lo hi xs hn xs.length 0 (by omega)
  exact h

/-! areNeeds -/
theorem areStations_eq (n : Int) : impl_areStations.f n = some (decide (1 ≤ n ∧ n ≤ 12)) := by
  unfold impl_areStations.f
  rw [within_eq]; rfl
theorem areNeeds_ev (xs : List Int) (hn : xs.length ≤ 1099511627776) : Ev (fun k => impl_areNeeds.f k xs) (inAll 0 1000 xs && decide (1 ≤ (xs.length : Int) ∧ (xs.length : Int) ≤ 12)) := by
  unfold impl_areNeeds.f
  simp only [areStations_eq, Option.bind_some]
  by_cases h : 1 ≤ (xs.length : Int) ∧ (xs.length : Int) ≤ 12
  · simp only [h, and_self, decide_true, if_true, Bool.and_true]
    exact Ev.bind (areIn_ev 0 1000 xs hn) (Ev.now _)
  · simp only [h, decide_false, Bool.false_eq_true, if_false, Bool.and_false]
    exact Ev.now _

/-! rdset -/
theorem rd_set_same {xs : List Int} {s v : Int} (h0 : 0 ≤ s) (h : s < (xs.length : Int)) : rd (xs.set s.toNat v) s = v := by
  unfold rd
  rw [List.getD_eq_getElem?_getD, List.getElem?_set_self (by omega)]; rfl
theorem rd_set_ne {xs : List Int} {s t v : Int} (h0 : 0 ≤ s) (h1 : 0 ≤ t) (h : s ≠ t) : rd (xs.set s.toNat v) t = rd xs t := by
  unfold rd
  rw [List.getD_eq_getElem?_getD, List.getD_eq_getElem?_getD, List.getElem?_set_ne (by omega)]

/-! sumL -/
def sumL : List Int → Int
  | [] => 0
  | x :: r => x + sumL r
theorem rd_zero (x : Int) (r : List Int) : rd (x :: r) ((0 : Nat) : Int) = x := rfl
theorem rd_succ (x : Int) (r : List Int) (i : Nat) : rd (x :: r) ((i + 1 : Nat) : Int) = rd r (i : Int) := by
  rw [rd_nat, rd_nat]; rfl
theorem sumL_set (l : List Int) : ∀ (i : Nat) (v : Int), i < l.length → sumL (l.set i v) = sumL l - rd l (i : Int) + v := by
  induction l with
  | nil => intro i v h; exact absurd h (by simp)
  | cons x l ih =>
    intro i v h
    cases i with
    | zero => rw [rd_zero]; simp only [List.set_cons_zero, sumL]; omega
    | succ i =>
      have h2 := ih i v (by simpa using h)
      rw [rd_succ]
      simp only [List.set_cons_succ, sumL]; omega
theorem sumL_nonneg (l : List Int) : (∀ x ∈ l, 0 ≤ x) → 0 ≤ sumL l := by
  induction l with
  | nil => intro _; exact Int.le_refl _
  | cons x l ih =>
    intro h
    have h1 := h x List.mem_cons_self
    have h2 := ih (fun y hy => h y (List.mem_cons_of_mem _ hy))
    simp only [sumL]; omega
theorem sumL_ge (l : List Int) : (∀ x ∈ l, 0 ≤ x) → ∀ x ∈ l, x ≤ sumL l := by
  induction l with
  | nil => intro _ x hx; exact absurd hx (by simp)
  | cons y l ih =>
    intro h x hx
    have h1 := h y List.mem_cons_self
    have h3 := fun z hz => h z (List.mem_cons_of_mem _ hz)
    have h2 := sumL_nonneg l h3
    simp only [sumL]
    rcases List.mem_cons.1 hx with rfl | hx
    · omega
    · have := ih h3 x hx; omega
theorem sumL_le (l : List Int) (b : Int) : (∀ x ∈ l, x ≤ b) → sumL l ≤ b * (l.length : Int) := by
  induction l with
  | nil => intro _; simp [sumL]
  | cons y l ih =>
    intro h
    have h1 := h y List.mem_cons_self
    have h2 := ih (fun z hz => h z (List.mem_cons_of_mem _ hz))
    have e : b * ((y :: l).length : Int) = b * (l.length : Int) + b := by
      rw [List.length_cons, show ((l.length + 1 : Nat) : Int) = (l.length : Int) + 1 by omega, Int.mul_add, Int.mul_one]
    rw [e]
    simp only [sumL]; omega
theorem rd_setn (l : List Int) (i j : Nat) (v : Int) (hi : i < l.length) : rd (l.set i v) (j : Int) = if i = j then v else rd l (j : Int) := by
  by_cases h : i = j
  · subst h
    rw [if_pos rfl]
    have := rd_set_same (xs := l) (s := (i : Int)) (v := v) (by omega) (by omega)
    rwa [Int.toNat_natCast] at this
  · rw [if_neg h]
    have := rd_set_ne (xs := l) (s := (i : Int)) (t := (j : Int)) (v := v) (by omega) (by omega) (by omega)
    rwa [Int.toNat_natCast] at this
theorem mem_rd {l : List Int} {x : Int} (h : x ∈ l) : ∃ j : Nat, j < l.length ∧ rd l (j : Int) = x := by
  obtain ⟨j, hj, e⟩ := List.getElem_of_mem h
  exact ⟨j, hj, by rw [rd_get hj, e]⟩
theorem all_rd {l : List Int} {P : Int → Prop} (h : ∀ j : Nat, j < l.length → P (rd l (j : Int))) : ∀ x ∈ l, P x := by
  intro x hx
  obtain ⟨j, hj, e⟩ := mem_rd hx
  rw [← e]; exact h j hj

/-! l00In -/

/-! l09Needs -/

/-! PollCycle -/
/-- What PollCycle answers: the times at which the stations are asked, and the time behind them. -/
def pollB (xs : List Int) (w : Int) : Bool := (inAll 0 1000 xs && decide (1 ≤ (xs.length : Int) ∧ (xs.length : Int) ≤ 12)) && decide (0 ≤ w ∧ w ≤ 1000)
def pollTimes (w : Int) : List Int → Int → List Int
  | [], _ => []
  | x :: xs, t => t :: pollTimes w xs (t + (x + w))
def pollEnd (w : Int) : List Int → Int → Int
  | [], t => t
  | x :: xs, t => pollEnd w xs (t + (x + w))
theorem pollTimes_length (w : Int) (xs : List Int) (t : Int) : (pollTimes w xs t).length = xs.length := by
  induction xs generalizing t with
  | nil => rfl
  | cons x xs ih => simp [pollTimes, ih]
def pollAns (xs : List Int) (w : Int) : List Int × Int × Bool := if pollB xs w = true then (pollTimes w xs 0, pollEnd w xs 0, true) else ([], 0, false)
theorem pollAns_len (xs : List Int) (w : Int) (hn : xs.length ≤ 1099511627776) : (pollAns xs w).1.length ≤ 1099511627776 := by
  unfold pollAns
  split
  · simpa [pollTimes_length] using hn
  · simp

/-! PollI -/
theorem PCi_l0 (xs : List Int) (w : Int) (hn : xs.length ≤ 12) (hb : inAll 0 1000 xs = true) (hw0 : 0 ≤ w) (hw1 : w ≤ 1000) : ∀ (d n : Nat) (c : List Int) (t : Int), c.length = n → 0 ≤ t → t ≤ 2000 * n → n + d = xs.length →
    Ev (fun k => impl_PollCycle.l0 k w c t xs (xs.length : Int) (n : Int)) (c ++ pollTimes w (xs.drop n) t, pollEnd w (xs.drop n) t, true) := by
  intro d
  induction d with
  | zero =>
    intro n c t hc h0 ht h
    have h1 : ¬ ((n : Int) < (xs.length : Int)) := by omega
    have h2 : xs.drop n = [] := List.drop_eq_nil_of_le (by omega)
    rw [h2]
    simp only [pollTimes, pollEnd, List.append_nil]
    apply Ev.succ
    simp only [impl_PollCycle.l0, h1, if_false]; exact Ev.now _
  | succ d ih =>
    intro n c t hc h0 ht h
    have h1 : (n : Int) < (xs.length : Int) := by omega
    have h2 : (0 : Int) ≤ (n : Int) := by omega
    have h5 : c.length < 17592186044416 := by omega
    have hm := inAll_mem hb _ (rd_mem (show n < xs.length by omega))
    have e1 : wrap64 (rd xs (n : Int) + w) = rd xs (n : Int) + w := w64 (by omega) (by omega)
    have e2 : wrap64 (t + (rd xs (n : Int) + w)) = t + (rd xs (n : Int) + w) := w64 (by omega) (by omega)
    have h3 := ih (n + 1) (c ++ [t]) (t + (rd xs (n : Int) + w)) (by simp [hc]) (by omega) (by omega) (by omega)
    rw [drop_rd (show n < xs.length by omega)]
    simp only [pollTimes, pollEnd]
    rw [List.append_assoc] at h3
    apply Ev.succ
    simp only [impl_PollCycle.l0, h1, h2, h5, e1, e2, if_true, w64_succ (show n < 9223372036854775807 by omega)]; exact h3
theorem PCi_ev (xs : List Int) (w : Int) (hn : 1 ≤ xs.length ∧ xs.length ≤ 12) (hb : inAll 0 1000 xs = true) (hw : 0 ≤ w ∧ w ≤ 1000) : Ev (fun k => impl_PollCycle.f k xs w) (pollTimes w xs 0, pollEnd w xs 0, true) := by
  have hB := areNeeds_ev xs (by omega)
  rw [hb, decide_eq_true (show 1 ≤ (xs.length : Int) ∧ (xs.length : Int) ≤ 12 by omega)] at hB
  unfold impl_PollCycle.f
  refine Ev.bind hB ?_
  refine Ev.cond (fun _ => ?_) (fun h' => absurd (by trivial) h')
  refine Ev.bind (Ev.const (within_eq _ _ _)) ?_
  rw [decide_eq_true hw]
  apply Ev.succ
  simp only [impl_PollCycle.j0]
  refine Ev.cond (fun h' => absurd h' (by decide)) (fun _ => ?_)
  have h := PCi_l0 xs w hn.2 hb hw.1 hw.2 xs.length 0 [] 0 rfl (by omega) (by omega) (by omega)
  exact h
theorem pollEnd_eq (w : Int) (xs : List Int) : ∀ t, pollEnd w xs t = t + sumL xs + w * (xs.length : Int) := by
  induction xs with
  | nil => intro t; simp [pollEnd, sumL]
  | cons x xs ih =>
    intro t
    have e : w * ((x :: xs).length : Int) = w * (xs.length : Int) + w := by
      rw [List.length_cons, show ((xs.length + 1 : Nat) : Int) = (xs.length : Int) + 1 by omega, Int.mul_add, Int.mul_one]
    simp only [pollEnd, sumL]
    rw [ih, e]; omega

/-! mxmn -/
theorem mx_eq (a b : Int) : mx a b = max a b := by unfold mx; split <;> omega
theorem mn_eq (a b : Int) : mn a b = min a b := by unfold mn; split <;> omega

/-! slicesMax -/
def maxR (m : Int) : List Int → Int
  | [] => m
  | x :: r => maxR (max m x) r
def maxL : List Int → Int
  | [] => 0
  | x :: r => maxR x r
theorem maxR_ge (l : List Int) : ∀ m, m ≤ maxR m l := by
  induction l with
  | nil => intro m; exact Int.le_refl _
  | cons x l ih => intro m; have := ih (max m x); simp only [maxR]; omega
theorem maxR_mem_ge (l : List Int) : ∀ m x, x ∈ l → x ≤ maxR m l := by
  induction l with
  | nil => intro m x h; exact absurd h (by simp)
  | cons y l ih =>
    intro m x h
    simp only [maxR]
    rcases List.mem_cons.1 h with rfl | h
    · have := maxR_ge l (max m x); omega
    · exact ih _ _ h
theorem maxR_in (l : List Int) : ∀ m, maxR m l = m ∨ maxR m l ∈ l := by
  induction l with
  | nil => intro m; exact .inl rfl
  | cons y l ih =>
    intro m
    simp only [maxR]
    rcases ih (max m y) with h | h
    · by_cases hm : m < y
      · right; rw [h, show max m y = y by omega]; exact List.mem_cons_self
      · left; rw [h]; omega
    · right; exact List.mem_cons_of_mem _ h
theorem maxL_ge {l : List Int} {x : Int} (h : x ∈ l) : x ≤ maxL l := by
  cases l with
  | nil => exact absurd h (by simp)
  | cons y l =>
    rcases List.mem_cons.1 h with rfl | h
    · exact maxR_ge l x
    · exact maxR_mem_ge l y x h
theorem maxL_mem {l : List Int} (h : 0 < l.length) : maxL l ∈ l := by
  cases l with
  | nil => exact absurd h (by simp)
  | cons y l =>
    rcases maxR_in l y with e | e
    · show maxR y l ∈ y :: l
      rw [e]; exact List.mem_cons_self
    · exact List.mem_cons_of_mem _ e
theorem Max_l0 (xs : List Int) (hx : xs.length ≤ 1099511627776) : ∀ (d n : Nat) (m : Int), n + d = xs.length → Ev (fun k => slices_Max_int64_int64.l0 k xs m (n : Int)) (maxR m (xs.drop n)) := by
  intro d
  induction d with
  | zero =>
    intro n m h
    have c1 : ¬ (n : Int) < (xs.length : Int) := by omega
    rw [List.drop_eq_nil_of_le (by omega)]
    apply Ev.succ
    simp only [slices_Max_int64_int64.l0]
    exact Ev.cond (fun h' => absurd h' c1) (fun _ => Ev.now _)
  | succ d ih =>
    intro n m h
    have c1 : (n : Int) < (xs.length : Int) := by omega
    have c2 : (0 : Int) ≤ (n : Int) := by omega
    have h3 := ih (n + 1) (max m (rd xs (n : Int))) (by omega)
    rw [drop_rd (show n < xs.length by omega)]
    apply Ev.succ
    simp only [slices_Max_int64_int64.l0, mx_eq, w64_succ (show n < 9223372036854775807 by omega)]
    refine Ev.cond (fun _ => ?_) (fun h' => absurd c1 h')
    exact Ev.cond (fun _ => h3) (fun h' => absurd c2 h')
theorem Max_ev (xs : List Int) (h0 : 0 < xs.length) (hx : xs.length ≤ 1099511627776) : Ev (fun k => slices_Max_int64_int64.f k xs) (maxL xs) := by
  cases xs with
  | nil => exact absurd h0 (by simp)
  | cons y l =>
    unfold slices_Max_int64_int64.f
    have c1 : ¬ ((y :: l).length : Int) < 1 := by simp only [List.length_cons]; omega
    have c2 : 0 < ((y :: l).length : Int) := by simp only [List.length_cons]; omega
    refine Ev.cond (fun h' => absurd h' c1) (fun _ => ?_)
    refine Ev.cond (fun _ => ?_) (fun h' => absurd c2 h')
    have h := Max_l0 (y :: l) hx l.length 1 y (by simp only [List.length_cons]; omega)
    exact h

/-! TokenI -/
/-- A station's turn. -/
def tkN (h : Int) (l : List Int) (i : Nat) : Int := min (rd l (i : Int)) h
def tkLeft (h : Int) (l : List Int) (i : Nat) : List Int := l.set i (rd l (i : Int) - tkN h l i)
def tkOut (h t : Int) (l o : List Int) (i : Nat) : List Int := if tkN h l i > 0 then o.set i (t + tkN h l i) else o
/-- What holds of needs that are left. -/
structure TkOK (N : Nat) (l o : List Int) (t : Int) : Prop where
  ll : l.length = N
  lo : o.length = N
  hl : ∀ j : Nat, j < N → 0 ≤ rd l (j : Int) ∧ rd l (j : Int) ≤ 1000
  ht : 0 ≤ t
theorem tkN_in {h : Int} (hh : 1 ≤ h) {N : Nat} {l o : List Int} {t : Int} (H : TkOK N l o t) {i : Nat} (hi : i < N) :
    0 ≤ tkN h l i ∧ tkN h l i ≤ rd l (i : Int) ∧ tkN h l i ≤ 1000 ∧ (rd l (i : Int) > 0 → tkN h l i > 0) := by
  have := H.hl i hi
  unfold tkN
  omega
theorem tkOK_step {h w : Int} (hh : 1 ≤ h) (hw : 0 ≤ w) {N : Nat} {l o : List Int} {t : Int} (H : TkOK N l o t) {i : Nat} (hi : i < N) :
    TkOK N (tkLeft h l i) (tkOut h t l o i) (t + tkN h l i + w) := by
  have hn := tkN_in hh H hi
  have hl := H.hl
  have hr := hl i hi
  refine ⟨?_, ?_, ?_, ?_⟩
  · unfold tkLeft; rw [List.length_set]; exact H.ll
  · unfold tkOut; split
    · rw [List.length_set]; exact H.lo
    · exact H.lo
  · intro j hj
    unfold tkLeft
    rw [rd_setn _ _ _ _ (by rw [H.ll]; exact hi)]
    have := hl j hj
    split
    · omega
    · exact this
  · have := H.ht; omega
theorem tkSum {h : Int} {N : Nat} {l o : List Int} {t : Int} (H : TkOK N l o t) {i : Nat} (hi : i < N) : sumL (tkLeft h l i) = sumL l - tkN h l i := by
  unfold tkLeft
  rw [sumL_set _ _ _ (by rw [H.ll]; exact hi)]; omega
theorem tk_step {h w : Int} (hh : 1 ≤ h ∧ h ≤ 1000) (hw : 0 ≤ w ∧ w ≤ 1000) {N : Nat} (hN : N ≤ 12) {l o : List Int} {t : Int} (H : TkOK N l o t) (ht : t ≤ 1000000000) {i : Nat} (hi : i < N) {r : List Int × Int × Bool}
    (g : Ev (fun k => impl_TokenRounds.l1 k h w (tkLeft h l i) (tkOut h t l o i) (t + tkN h l i + w) (N : Int) ((i + 1 : Nat) : Int)) r) :
    Ev (fun k => impl_TokenRounds.l1 k h w l o t (N : Int) (i : Int)) r := by
  have hn := tkN_in hh.1 H hi
  have h0 := H.ht
  have hr := H.hl i hi
  have c1 : (i : Int) < (N : Int) := Int.ofNat_lt.2 hi
  have c2 : (0 : Int) ≤ (i : Int) := Int.natCast_nonneg _
  have c3 : (i : Int) < (l.length : Int) := by rw [H.ll]; exact c1
  have c4 : (i : Int) < (o.length : Int) := by rw [H.lo]; exact c1
  have hws := w64_succ (show i < 9223372036854775807 by omega)
  have e1 : wrap64 (rd l (i : Int) - tkN h l i) = rd l (i : Int) - tkN h l i := w64 (by omega) (by omega)
  have e2 : wrap64 (t + tkN h l i) = t + tkN h l i := w64 (by omega) (by omega)
  have e3 : wrap64 (t + tkN h l i + w) = t + tkN h l i + w := w64 (by omega) (by omega)
  have em : mn (rd l (i : Int)) h = tkN h l i := mn_eq _ _
  apply Ev.succ
  simp only [impl_TokenRounds.l1, em, e1, e2, e3, hws, Int.toNat_natCast]
  refine Ev.cond (fun _ => ?_) (fun h' => absurd c1 h')
  refine Ev.cond (fun _ => ?_) (fun h' => absurd c2 h')
  refine Ev.cond (fun _ => ?_) (fun h' => absurd c3 h')
  refine Ev.bind (Ev.now _) ?_
  unfold tkOut tkLeft at g
  by_cases hp : tkN h l i > 0
  · rw [if_pos hp] at g
    refine Ev.cond (fun _ => ?_) (fun h' => absurd hp h')
    exact Ev.cond (fun _ => g) (fun h' => absurd c4 h')
  · rw [if_neg hp] at g
    exact Ev.cond (fun h' => absurd h' hp) (fun _ => g)
/-- A round: what each turn keeps, holds behind it. -/
theorem tk_round {h w : Int} (hh : 1 ≤ h ∧ h ≤ 1000) (hw : 0 ≤ w ∧ w ≤ 1000) {N : Nat} (hN : N ≤ 12) (P : List Int → List Int → Int → Nat → Prop)
    (hP : ∀ l o t i, i < N → TkOK N l o t → t ≤ 1000000000 → P l o t i → P (tkLeft h l i) (tkOut h t l o i) (t + tkN h l i + w) (i + 1)) :
    ∀ (d i : Nat) (l o : List Int) (t : Int), i + d = N → TkOK N l o t → P l o t i → t + sumL l + 1000 * (d : Int) ≤ 900000000 →
      ∃ l' o' t', TkOK N l' o' t' ∧ P l' o' t' N ∧ t' + sumL l' ≤ t + sumL l + 1000 * (d : Int) ∧ sumL l' ≤ sumL l ∧ (∀ j, i ≤ j → j < N → rd l (j : Int) > 0 → sumL l' < sumL l) ∧
        ∀ r, Ev (fun k => impl_TokenRounds.l0 k h w l' o' t') r → Ev (fun k => impl_TokenRounds.l1 k h w l o t (N : Int) (i : Int)) r := by
  intro d
  induction d with
  | zero =>
    intro i l o t hi H hp ht
    obtain rfl : i = N := by omega
    refine ⟨l, o, t, H, hp, by omega, Int.le_refl _, fun j h1 h2 => absurd h2 (by omega), fun r hr => ?_⟩
    have c1 : ¬ (i : Int) < (i : Int) := Int.lt_irrefl _
    apply Ev.succ
    simp only [impl_TokenRounds.l1]
    exact Ev.cond (fun h' => absurd h' c1) (fun _ => hr)
  | succ d ih =>
    intro i l o t hi H hp ht
    have hi' : i < N := by omega
    have hn := tkN_in hh.1 H hi'
    have hs := tkSum (h := h) H hi'
    have h0 : 0 ≤ sumL l := sumL_nonneg _ (all_rd (fun j hj => (H.hl j (by rw [← H.ll]; exact hj)).1))
    have ht0 := H.ht
    have ht2 : t ≤ 1000000000 := by omega
    obtain ⟨l', o', t', g1, g2, g3, g4, g5, g6⟩ := ih (i + 1) _ _ _ (by omega) (tkOK_step hh.1 hw.1 H hi') (hP l o t i hi' H ht2 hp) (by rw [hs]; omega)
    rw [hs] at g3 g4 g5
    refine ⟨l', o', t', g1, g2, by omega, by omega, fun j h1 h2 h3 => ?_, fun r hr => tk_step hh hw hN H ht2 hi' (g6 r hr)⟩
    by_cases hj : j = i
    · subst hj
      have := hn.2.2.2 h3
      omega
    · have h4 : rd (tkLeft h l i) (j : Int) = rd l (j : Int) := by
        unfold tkLeft
        rw [rd_setn _ _ _ _ (by rw [H.ll]; exact hi'), if_neg (fun e => hj e.symm)]
      have := g5 j (by omega) h2 (by rw [h4]; exact h3)
      omega
/-- All rounds. -/
theorem tk_all {h w : Int} (hh : 1 ≤ h ∧ h ≤ 1000) (hw : 0 ≤ w ∧ w ≤ 1000) {N : Nat} (hN : 1 ≤ N ∧ N ≤ 12) (P : List Int → List Int → Int → Nat → Prop)
    (hP : ∀ l o t i, i < N → TkOK N l o t → t ≤ 1000000000 → P l o t i → P (tkLeft h l i) (tkOut h t l o i) (t + tkN h l i + w) (i + 1))
    (hR : ∀ l o t, P l o t N → P l o t 0) :
    ∀ (s : Nat) (l o : List Int) (t : Int), sumL l ≤ (s : Int) → TkOK N l o t → P l o t 0 → t + 13000 * sumL l ≤ 200000000 →
      ∃ l' o' t', TkOK N l' o' t' ∧ P l' o' t' 0 ∧ (∀ j : Nat, j < N → rd l' (j : Int) = 0) ∧ Ev (fun k => impl_TokenRounds.l0 k h w l o t) (o', maxL o', true) := by
  intro s
  induction s with
  | zero =>
    intro l o t hs H hp ht
    have hz : ∀ j : Nat, j < N → rd l (j : Int) = 0 := by
      intro j hj
      have h1 := sumL_ge l (all_rd (fun j hj => (H.hl j (by rw [← H.ll]; exact hj)).1)) _ (rd_mem (n := j) (by rw [H.ll]; exact hj))
      have h2 := H.hl j hj
      omega
    refine ⟨l, o, t, H, hp, hz, ?_⟩
    have hm : ¬ maxL l > 0 := by
      obtain ⟨j, hj, e⟩ := mem_rd (maxL_mem (l := l) (by rw [H.ll]; omega))
      rw [← e, hz j (by rw [← H.ll]; exact hj)]; decide
    apply Ev.succ
    simp only [impl_TokenRounds.l0]
    refine Ev.bind (Max_ev l (by rw [H.ll]; omega) (by rw [H.ll]; omega)) ?_
    refine Ev.cond (fun h' => absurd h' hm) (fun _ => ?_)
    exact Ev.bind (Max_ev o (by rw [H.lo]; omega) (by rw [H.lo]; omega)) (Ev.now _)
  | succ s ih =>
    intro l o t hs H hp ht
    have hnn : ∀ x ∈ l, 0 ≤ x := all_rd (fun j hj => (H.hl j (by rw [← H.ll]; exact hj)).1)
    have hs0 := sumL_nonneg l hnn
    by_cases hm : maxL l > 0
    · obtain ⟨j, hj, e⟩ := mem_rd (maxL_mem (l := l) (by rw [H.ll]; omega))
      have hsb : sumL l ≤ 1000 * (l.length : Int) := sumL_le l 1000 (all_rd (fun j hj => (H.hl j (by rw [← H.ll]; exact hj)).2))
      have hll := H.ll
      obtain ⟨l', o', t', g1, g2, g3, g4, g5, g6⟩ := tk_round hh hw hN.2 P hP N 0 l o t (by omega) H hp (by omega)
      have hlt := g5 j (by omega) (by rw [← H.ll]; exact hj) (by rw [e]; exact hm)
      obtain ⟨l2, o2, t2, k1, k2, k3, k4⟩ := ih l' o' t' (by omega) g1 (hR _ _ _ g2) (by omega)
      refine ⟨l2, o2, t2, k1, k2, k3, ?_⟩
      apply Ev.succ
      simp only [impl_TokenRounds.l0]
      refine Ev.bind (Max_ev l (by rw [H.ll]; omega) (by rw [H.ll]; omega)) ?_
      refine Ev.cond (fun _ => ?_) (fun h' => absurd hm h')
      rw [hll]
      exact g6 _ k4
    · have hz : ∀ j : Nat, j < N → rd l (j : Int) = 0 := by
        intro j hj
        have h1 := maxL_ge (rd_mem (xs := l) (n := j) (by rw [H.ll]; exact hj))
        have h2 := H.hl j hj
        omega
      refine ⟨l, o, t, H, hp, hz, ?_⟩
      apply Ev.succ
      simp only [impl_TokenRounds.l0]
      refine Ev.bind (Max_ev l (by rw [H.ll]; omega) (by rw [H.ll]; omega)) ?_
      refine Ev.cond (fun h' => absurd h' hm) (fun _ => ?_)
      exact Ev.bind (Max_ev o (by rw [H.lo]; omega) (by rw [H.lo]; omega)) (Ev.now _)

/-! ReserveI -/
structure RsOK (N : Nat) (l : List Int) : Prop where
  ll : l.length = N
  hl : ∀ j : Nat, j < N → 0 ≤ rd l (j : Int) ∧ rd l (j : Int) ≤ 1000
theorem RsOK.nn {N : Nat} {l : List Int} (H : RsOK N l) : ∀ x ∈ l, 0 ≤ x := all_rd (fun j hj => (H.hl j (by rw [← H.ll]; exact hj)).1)
def rsTake (l : List Int) (i : Nat) : List Int := l.set i (rd l (i : Int) - 1)
theorem rsOK_take {N : Nat} {l : List Int} (H : RsOK N l) {i : Nat} (hi : i < N) (hp : rd l (i : Int) > 0) : RsOK N (rsTake l i) := by
  refine ⟨by unfold rsTake; rw [List.length_set]; exact H.ll, fun j hj => ?_⟩
  unfold rsTake
  rw [rd_setn _ _ _ _ (by rw [H.ll]; exact hi)]
  have h1 := H.hl j hj
  have h2 := H.hl i hi
  split
  · omega
  · exact h1
theorem rsSum {N : Nat} {l : List Int} (H : RsOK N l) {i : Nat} (hi : i < N) : sumL (rsTake l i) = sumL l - 1 := by
  unfold rsTake
  rw [sumL_set _ _ _ (by rw [H.ll]; exact hi)]; omega
theorem rs_zero {N : Nat} {l : List Int} (H : RsOK N l) (h : ¬ maxL l > 0) : ∀ j : Nat, j < N → rd l (j : Int) = 0 := by
  intro j hj
  have h1 := maxL_ge (rd_mem (xs := l) (n := j) (by rw [H.ll]; exact hj))
  have h2 := H.hl j hj
  omega
/-- What turns of a round keep. -/
def RsStep (N : Nat) (f : Int) (P : List Int → List (List Int) → List Int → Nat → Prop) : Prop :=
  ∀ (l : List Int) (out : List (List Int)) (own : List Int) (i : Nat), i < N → RsOK N l → P l out own i →
    (rd l (i : Int) > 0 ∧ (own.length : Int) < f → P (rsTake l i) out (own ++ [(i : Int)]) (i + 1)) ∧ (¬ (rd l (i : Int) > 0 ∧ (own.length : Int) < f) → P l out own (i + 1))
theorem rs_l2 {N : Nat} (hN : 1 ≤ N ∧ N ≤ 12) {f : Int} (hf : 1 ≤ f ∧ f ≤ 20) (P : List Int → List (List Int) → List Int → Nat → Prop) (hP : RsStep N f P) :
    ∀ (d i : Nat) (l : List Int) (out : List (List Int)) (own : List Int), i + d = N → RsOK N l → (own.length : Int) ≤ f → P l out own i →
      ∃ (l' own' : List Int), RsOK N l' ∧ (own'.length : Int) ≤ f ∧ P l' out own' N ∧ sumL l' + (own'.length : Int) = sumL l + (own.length : Int) ∧ own.length ≤ own'.length ∧
        ((own.length : Int) < f → ∀ j : Nat, i ≤ j → j < N → rd l (j : Int) > 0 → own.length < own'.length) ∧
        ∀ r, Ev (fun k => impl_ReserveSlots.l1 k f l' out own') r → Ev (fun k => impl_ReserveSlots.l2 k f l out own (N : Int) (i : Int)) r := by
  intro d
  induction d with
  | zero =>
    intro i l out own hi H hle hp
    obtain rfl : i = N := by omega
    refine ⟨l, own, H, hle, hp, rfl, Nat.le_refl _, fun _ j h1 h2 => absurd h2 (by omega), fun r hr => ?_⟩
    have c1 : ¬ (i : Int) < (i : Int) := Int.lt_irrefl _
    apply Ev.succ
    simp only [impl_ReserveSlots.l2]
    exact Ev.cond (fun h' => absurd h' c1) (fun _ => hr)
  | succ d ih =>
    intro i l out own hi H hle hp
    have hi' : i < N := by omega
    have hri := H.hl i hi'
    have c1 : (i : Int) < (N : Int) := Int.ofNat_lt.2 hi'
    have c2 : (0 : Int) ≤ (i : Int) := Int.natCast_nonneg _
    have c3 : (i : Int) < (l.length : Int) := by rw [H.ll]; exact c1
    have hws := w64_succ (show i < 9223372036854775807 by omega)
    have e1 : wrap64 (rd l (i : Int) - 1) = rd l (i : Int) - 1 := w64 (by omega) (by omega)
    obtain ⟨s1, s2⟩ := hP l out own i hi' H hp
    by_cases hc : rd l (i : Int) > 0 ∧ (own.length : Int) < f
    · have hsum := rsSum H hi'
      have hlen : (own ++ [(i : Int)]).length = own.length + 1 := by rw [List.length_append, List.length_singleton]
      obtain ⟨l', own', g1, g2, g3, g4, g5, g6, g7⟩ := ih (i + 1) _ out _ (by omega) (rsOK_take H hi' hc.1) (by rw [hlen]; omega) (s1 hc)
      rw [hlen] at g4 g5
      refine ⟨l', own', g1, g2, g3, by omega, by omega, fun _ j _ _ _ => by omega, fun r hr => ?_⟩
      have c4 : own.length < 17592186044416 := by omega
      apply Ev.succ
      simp only [impl_ReserveSlots.l2, hws, e1, Int.toNat_natCast]
      refine Ev.cond (fun _ => ?_) (fun h' => absurd c1 h')
      refine Ev.cond (fun _ => ?_) (fun h' => absurd c2 h')
      refine Ev.cond (fun _ => ?_) (fun h' => absurd c3 h')
      refine Ev.cond (fun _ => ?_) (fun h' => absurd hc.1 h')
      refine Ev.cond (fun _ => ?_) (fun h' => absurd hc.2 h')
      exact Ev.cond (fun _ => g7 r hr) (fun h' => absurd c4 h')
    · obtain ⟨l', own', g1, g2, g3, g4, g5, g6, g7⟩ := ih (i + 1) l out own (by omega) H hle (s2 hc)
      refine ⟨l', own', g1, g2, g3, g4, g5, fun hlt j h1 h2 h3 => ?_, fun r hr => ?_⟩
      · by_cases hj : j = i
        · subst hj; exact absurd ⟨h3, hlt⟩ hc
        · exact g6 hlt j (by omega) h2 h3
      · apply Ev.succ
        simp only [impl_ReserveSlots.l2, hws]
        refine Ev.cond (fun _ => ?_) (fun h' => absurd c1 h')
        refine Ev.cond (fun _ => ?_) (fun h' => absurd c2 h')
        refine Ev.cond (fun _ => ?_) (fun h' => absurd c3 h')
        refine Ev.cond (fun h0 => ?_) (fun _ => g7 r hr)
        exact Ev.cond (fun h' => absurd ⟨h0, h'⟩ hc) (fun _ => g7 r hr)
theorem rs_l1 {N : Nat} (hN : 1 ≤ N ∧ N ≤ 12) {f : Int} (hf : 1 ≤ f ∧ f ≤ 20) (P : List Int → List (List Int) → List Int → Nat → Prop) (hP : RsStep N f P) (hR : ∀ l out own, P l out own N → P l out own 0) :
    ∀ (s : Nat) (l : List Int) (out : List (List Int)) (own : List Int), sumL l ≤ (s : Int) → out.length ≤ 300 → RsOK N l → (own.length : Int) ≤ f → P l out own 0 →
      ∃ (l' own' : List Int), RsOK N l' ∧ (own'.length : Int) ≤ f ∧ P l' out own' 0 ∧ sumL l' + (own'.length : Int) = sumL l + (own.length : Int) ∧ own.length ≤ own'.length ∧
        ((own.length : Int) < f → maxL l > 0 → own.length < own'.length) ∧ ((own'.length : Int) = f ∨ ¬ maxL l' > 0) ∧
        ∀ r, Ev (fun k => impl_ReserveSlots.l0 k f l' (out ++ [own'])) r → Ev (fun k => impl_ReserveSlots.l1 k f l out own) r := by
  have stop : ∀ (l : List Int) (out : List (List Int)) (own : List Int), out.length ≤ 300 → RsOK N l → ¬ ((own.length : Int) < f ∧ maxL l > 0) →
      ∀ r, Ev (fun k => impl_ReserveSlots.l0 k f l (out ++ [own])) r → Ev (fun k => impl_ReserveSlots.l1 k f l out own) r := by
    intro l out own ho H hc r hr
    have c5 : out.length < 5864062014805 := by omega
    have fin : Ev (fun k => impl_ReserveSlots.j3 k f l out own false) r := by
      apply Ev.succ
      simp only [impl_ReserveSlots.j3]
      refine Ev.cond (fun h' => absurd h' (by decide)) (fun _ => ?_)
      exact Ev.cond (fun _ => hr) (fun h' => absurd c5 h')
    apply Ev.succ
    simp only [impl_ReserveSlots.l1]
    refine Ev.cond (fun h1 => ?_) (fun _ => fin)
    refine Ev.bind (Max_ev l (by rw [H.ll]; omega) (by rw [H.ll]; omega)) ?_
    rw [decide_eq_false (fun h2 => hc ⟨h1, h2⟩)]
    exact fin
  intro s
  induction s with
  | zero =>
    intro l out own hs ho H hle hp
    have hm : ¬ maxL l > 0 := by
      have h1 := sumL_ge l H.nn _ (maxL_mem (l := l) (by rw [H.ll]; omega))
      omega
    exact ⟨l, own, H, hle, hp, rfl, Nat.le_refl _, fun _ h => absurd h hm, .inr hm, stop l out own ho H (fun h => hm h.2)⟩
  | succ s ih =>
    intro l out own hs ho H hle hp
    by_cases hc : (own.length : Int) < f ∧ maxL l > 0
    · obtain ⟨j, hj, e⟩ := mem_rd (maxL_mem (l := l) (by rw [H.ll]; omega))
      obtain ⟨l1, own1, a1, a2, a3, a4, a5, a6, a7⟩ := rs_l2 hN hf P hP N 0 l out own (by omega) H hle hp
      have hlt := a6 hc.1 j (by omega) (by rw [← H.ll]; exact hj) (by rw [e]; exact hc.2)
      obtain ⟨l', own', g1, g2, g3, g4, g5, g6, g7, g8⟩ := ih l1 out own1 (by omega) ho a1 a2 (hR _ _ _ a3)
      refine ⟨l', own', g1, g2, g3, by omega, by omega, fun _ _ => by omega, g7, fun r hr => ?_⟩
      apply Ev.succ
      simp only [impl_ReserveSlots.l1]
      refine Ev.cond (fun _ => ?_) (fun h' => absurd hc.1 h')
      refine Ev.bind (Max_ev l (by rw [H.ll]; omega) (by rw [H.ll]; omega)) ?_
      rw [decide_eq_true hc.2]
      apply Ev.succ
      simp only [impl_ReserveSlots.j3]
      refine Ev.cond (fun _ => ?_) (fun h' => absurd (by trivial) h')
      rw [H.ll]
      exact a7 r (g8 r hr)
    · refine ⟨l, own, H, hle, hp, rfl, Nat.le_refl _, fun h1 h2 => absurd ⟨h1, h2⟩ hc, ?_, stop l out own ho H hc⟩
      by_cases h1 : (own.length : Int) < f
      · exact .inr (fun h2 => hc ⟨h1, h2⟩)
      · exact .inl (by omega)
/-- All frames. -/
theorem rs_l0 {N : Nat} (hN : 1 ≤ N ∧ N ≤ 12) {f : Int} (hf : 1 ≤ f ∧ f ≤ 20) (P : List Int → List (List Int) → List Int → Nat → Prop) (Z : List Int → List (List Int) → Prop) (hP : RsStep N f P) (hR : ∀ l out own, P l out own N → P l out own 0)
    (hS : ∀ l out, RsOK N l → maxL l > 0 → out.length < 300 → Z l out → P l out [] 0)
    (hF : ∀ l out own, RsOK N l → 1 ≤ own.length → (own.length : Int) ≤ f → ((own.length : Int) = f ∨ ¬ maxL l > 0) → P l out own 0 → Z l (out ++ [own])) :
    ∀ (s : Nat) (l : List Int) (out : List (List Int)), sumL l ≤ (s : Int) → out.length ≤ 300 → RsOK N l → Z l out →
      ∃ (l' : List Int) (out' : List (List Int)), RsOK N l' ∧ Z l' out' ∧ out'.length ≤ 300 ∧ ((¬ maxL l' > 0 ∧ Ev (fun k => impl_ReserveSlots.l0 k f l out) (out', true)) ∨ (maxL l' > 0 ∧ out'.length = 300 ∧ Ev (fun k => impl_ReserveSlots.l0 k f l out) (([] : List (List Int)), false))) := by
  have fin : ∀ (l : List Int) (out : List (List Int)), RsOK N l → ¬ maxL l > 0 → Ev (fun k => impl_ReserveSlots.l0 k f l out) (out, true) := by
    intro l out H hm
    apply Ev.succ
    simp only [impl_ReserveSlots.l0]
    refine Ev.bind (Max_ev l (by rw [H.ll]; omega) (by rw [H.ll]; omega)) ?_
    exact Ev.cond (fun h' => absurd h' hm) (fun _ => Ev.now _)
  intro s
  induction s with
  | zero =>
    intro l out hs ho H hz
    have hm : ¬ maxL l > 0 := by
      have h1 := sumL_ge l H.nn _ (maxL_mem (l := l) (by rw [H.ll]; omega))
      omega
    exact ⟨l, out, H, hz, ho, .inl ⟨hm, fin l out H hm⟩⟩
  | succ s ih =>
    intro l out hs ho H hz
    by_cases hm : maxL l > 0
    · by_cases h3 : out.length = 300
      · refine ⟨l, out, H, hz, ho, .inr ⟨hm, h3, ?_⟩⟩
        have c3 : (out.length : Int) = 300 := by omega
        apply Ev.succ
        simp only [impl_ReserveSlots.l0]
        refine Ev.bind (Max_ev l (by rw [H.ll]; omega) (by rw [H.ll]; omega)) ?_
        refine Ev.cond (fun _ => ?_) (fun h' => absurd hm h')
        exact Ev.cond (fun _ => Ev.now _) (fun h' => absurd c3 h')
      · have c3 : ¬ (out.length : Int) = 300 := by omega
        obtain ⟨l1, own1, a1, a2, a3, a4, a5, a6, a7, a8⟩ := rs_l1 hN hf P hP hR (s + 1) l out [] hs ho H (by simp; omega) (hS l out H hm (by omega) hz)
        have hlt := a6 (by simp; omega) hm
        simp only [List.length_nil] at hlt a4
        obtain ⟨l', out', g1, g2, g3, g4⟩ := ih l1 (out ++ [own1]) (by omega) (by rw [List.length_append, List.length_singleton]; omega) a1 (hF l1 out own1 a1 (by omega) a2 a7 a3)
        refine ⟨l', out', g1, g2, g3, ?_⟩
        have st : ∀ r, Ev (fun k => impl_ReserveSlots.l0 k f l1 (out ++ [own1])) r → Ev (fun k => impl_ReserveSlots.l0 k f l out) r := by
          intro r hr
          apply Ev.succ
          simp only [impl_ReserveSlots.l0]
          refine Ev.bind (Max_ev l (by rw [H.ll]; omega) (by rw [H.ll]; omega)) ?_
          refine Ev.cond (fun _ => ?_) (fun h' => absurd hm h')
          exact Ev.cond (fun h' => absurd h' c3) (fun _ => a8 r hr)
        rcases g4 with ⟨k1, k2⟩ | ⟨k1, k2, k3⟩
        · exact .inl ⟨k1, st _ k2⟩
        · exact .inr ⟨k1, k2, st _ k3⟩
    · exact ⟨l, out, H, hz, ho, .inl ⟨hm, fin l out H hm⟩⟩

/-! r8 -/
theorem wf_u8 {x : Int} (h : (Lit.int .u8 x).wf = true) : 0 ≤ x ∧ x ≤ 255 := by
  have h1 : decide (IntKind.min .u8 ≤ x) = true ∧ decide (x ≤ IntKind.max .u8) = true := by
    simpa [Lit.wf] using h
  obtain ⟨ha, hb⟩ := h1
  have ha := of_decide_eq_true ha
  have hb := of_decide_eq_true hb
  have e1 : IntKind.min .u8 = 0 := by decide
  have e2 : IntKind.max .u8 = 255 := by decide
  rw [e1] at ha
  rw [e2] at hb
  exact ⟨ha, hb⟩

/-! src -/
theorem u64_mod (z : Int) : IntKind.u64.wrap z = z % 18446744073709551616 := by simp [IntKind.wrap, IntKind.bits, IntKind.signed]
theorem u64_and255 (z : Int) : 0 ≤ wrap64 (Go.bits .and .u64 ((IntKind.u64.wrap z) / 1099511627776) 255) ∧ wrap64 (Go.bits .and .u64 ((IntKind.u64.wrap z) / 1099511627776) 255) ≤ 255 := by
  obtain ⟨Y, hY⟩ := Int.eq_ofNat_of_zero_le (show 0 ≤ (IntKind.u64.wrap z) / 1099511627776 by rw [u64_mod]; omega)
  have hlt : Y < 18446744073709551616 := by rw [u64_mod] at hY; omega
  rw [hY]
  have h2 : Go.bits .and .u64 (Y : Int) 255 = ((Y &&& 255 : Nat) : Int) := bits_and_u64_nat Y 255 hlt (by decide)
  rw [h2]
  have h3 : Y &&& 255 ≤ 255 := Nat.and_le_right
  rw [w64 (by omega) (by omega)]
  omega
theorem src_next (l : List Int) (h : ∀ x ∈ l, (Lit.int .u8 x).wf = true) (p : Nat) (hs : Int) (hp : p < 1099511627776) : ∃ v hs', spec_l00Src_next.f l (p : Int) hs = some (v, ((p + 1 : Nat) : Int), hs') ∧ 0 ≤ v ∧ v ≤ 255 := by
  have hw : wrap64 ((p : Int) + 1) = ((p + 1 : Nat) : Int) := w64_succ (by omega)
  unfold spec_l00Src_next.f
  by_cases h1 : p < l.length
  · have hx := wf_u8 (h _ (rd_mem h1))
    rw [if_pos (show (p : Int) < (l.length : Int) by omega), if_pos (show (0 : Int) ≤ (p : Int) by omega), hw, if_pos (show ((p + 1 : Nat) : Int) ≤ (l.length : Int) by omega)]
    refine ⟨_, _, rfl, ?_⟩
    rw [w64 (by omega) (by omega)]
    exact hx
  · rw [if_neg (show ¬ (p : Int) < (l.length : Int) by omega), hw, if_neg (show ¬ ((p + 1 : Nat) : Int) ≤ (l.length : Int) by omega)]
    exact ⟨_, _, rfl, u64_and255 _⟩
theorem src_pick (l : List Int) (h : ∀ x ∈ l, (Lit.int .u8 x).wf = true) (p : Nat) (hs a : Int) (hp : p < 1099511627776) (ha : 2 ≤ a) (ha2 : a ≤ 200) : ∃ v hs', spec_l00Src_pick.f l (p : Int) hs a = some (v, ((p + 1 : Nat) : Int), hs') ∧ 0 ≤ v ∧ v < a := by
  obtain ⟨v, hs', h1, h2, h3⟩ := src_next l h p hs hp
  unfold spec_l00Src_pick.f
  rw [if_neg (by omega), h1, Option.bind_some, if_neg (by omega), if_neg (by omega)]
  exact ⟨_, _, rfl, Int.tmod_nonneg _ h2, Int.tmod_lt_of_pos _ (by omega)⟩

/-! b10 -/
theorem b10At_eq (l : List Int) (h : ∀ x ∈ l, (Lit.int .u8 x).wf = true) (a n : Int) (ha : 0 ≤ a ∧ a ≤ 1000) (hn : 1 ≤ n) : ∃ t, laws_b10At.f l a n = some t ∧ 0 ≤ t ∧ t < n := by
  unfold laws_b10At.f
  by_cases h1 : n ≤ 1
  · exact ⟨0, by rw [if_pos h1], by omega, by omega⟩
  have hn0 : ¬ n = 0 := by omega
  by_cases h2 : a < (l.length : Int)
  · obtain ⟨m, rfl⟩ := Int.eq_ofNat_of_zero_le ha.1
    have hm : m < l.length := by omega
    have hx := wf_u8 (h _ (rd_mem hm))
    rw [if_neg h1, if_pos h2, if_pos ha.1, if_neg hn0, w64 (by omega) (by omega)]
    exact ⟨_, rfl, Int.tmod_nonneg _ hx.1, Int.tmod_lt_of_pos _ (by omega)⟩
  · have e1 : wrap64 (a * 37) = a * 37 := w64 (by omega) (by omega)
    have e2 : wrap64 (a * 37 + 11) = a * 37 + 11 := w64 (by omega) (by omega)
    rw [if_neg h1, if_neg h2, if_neg hn0, e1, e2]
    exact ⟨_, rfl, Int.tmod_nonneg _ (by omega), Int.tmod_lt_of_pos _ (by omega)⟩
theorem b10Long_eq (l m : List Int) : ∃ b, laws_b10Long.f l m = some b := by
  unfold laws_b10Long.f
  split
  · exact ⟨_, rfl⟩
  · exact ⟨_, rfl⟩
theorem b10Sum_l0 (xs : List Int) (hl : xs.length ≤ 1000) (hx : ∀ j : Nat, j < xs.length → 0 ≤ rd xs (j : Int) ∧ rd xs (j : Int) ≤ 1000) :
    ∀ (d n : Nat) (acc : Int), n + d = xs.length → 0 ≤ acc → acc ≤ 1000 * (n : Int) → Ev (fun k => laws_b10Sum.l0 k xs acc (n : Int)) (acc + sumL (xs.drop n)) := by
  intro d
  induction d with
  | zero =>
    intro n acc hd ha hb
    have c1 : ¬ (n : Int) < (xs.length : Int) := by omega
    rw [List.drop_eq_nil_of_le (by omega)]
    simp only [sumL, Int.add_zero]
    apply Ev.succ
    simp only [laws_b10Sum.l0]
    exact Ev.cond (fun h' => absurd h' c1) (fun _ => Ev.now _)
  | succ d ih =>
    intro n acc hd ha hb
    have hn : n < xs.length := by omega
    have c1 : (n : Int) < (xs.length : Int) := by omega
    have c2 : (0 : Int) ≤ (n : Int) := by omega
    have hr := hx n hn
    have e1 : wrap64 (acc + rd xs (n : Int)) = acc + rd xs (n : Int) := w64 (by omega) (by omega)
    have h3 := ih (n + 1) (acc + rd xs (n : Int)) (by omega) (by omega) (by omega)
    rw [Int.add_assoc] at h3
    rw [drop_rd hn]
    simp only [sumL]
    apply Ev.succ
    simp only [laws_b10Sum.l0, e1, w64_succ (show n < 9223372036854775807 by omega)]
    refine Ev.cond (fun _ => ?_) (fun h' => absurd c1 h')
    exact Ev.cond (fun _ => h3) (fun h' => absurd c2 h')
theorem b10Sum_ev (xs : List Int) (hl : xs.length ≤ 1000) (hx : ∀ j : Nat, j < xs.length → 0 ≤ rd xs (j : Int) ∧ rd xs (j : Int) ≤ 1000) : Ev (fun k => laws_b10Sum.f k xs) (sumL xs) := by
  have h := b10Sum_l0 xs hl hx xs.length 0 0 (by omega) (by omega) (by omega)
  rw [List.drop_zero, Int.zero_add] at h
  exact h
theorem b10Nums_l0 (xs : List Int) (hn : xs.length ≤ 1099511627776) : ∀ d n, n + d = xs.length → Ev (fun k => laws_b10Nums.l0 k xs xs (n : Int)) true := by
  intro d
  induction d with
  | zero =>
    intro n h
    have c1 : ¬ (n : Int) < (xs.length : Int) := by omega
    apply Ev.succ
    simp only [laws_b10Nums.l0]
    exact Ev.cond (fun h' => absurd h' c1) (fun _ => Ev.now _)
  | succ d ih =>
    intro n h
    have c1 : (n : Int) < (xs.length : Int) := by omega
    have c2 : (0 : Int) ≤ (n : Int) := by omega
    apply Ev.succ
    simp only [laws_b10Nums.l0, w64_succ (show n < 9223372036854775807 by omega)]
    refine Ev.cond (fun _ => ?_) (fun h' => absurd c1 h')
    refine Ev.cond (fun _ => ?_) (fun h' => absurd c2 h')
    refine Ev.cond (fun _ => ?_) (fun h' => absurd c1 h')
    exact Ev.cond (fun _ => ih (n + 1) (by omega)) (fun h' => absurd (by trivial) h')
theorem b10Nums_same (xs : List Int) (hn : xs.length ≤ 1099511627776) : Ev (fun k => laws_b10Nums.f k xs xs) true := by
  unfold laws_b10Nums.f
  exact Ev.cond (fun _ => b10Nums_l0 xs hn xs.length 0 (by omega)) (fun h' => absurd rfl h')
theorem B10Needs_l0 (l : List Int) (h : ∀ x ∈ l, (Lit.int .u8 x).wf = true) : ∀ (d : Nat) (xs : List Int) (p : Nat) (hs : Int), p + d ≤ 1000000 → xs.length + d ≤ 1000 → (∀ x ∈ xs, 0 ≤ x ∧ x ≤ 7) →
    ∃ ys : List Int, Ev (fun k => spec_B10Needs.l0 k xs (d : Int) l (p : Int) hs) ys ∧ ys.length = xs.length + d ∧ (∀ x ∈ ys, 0 ≤ x ∧ x ≤ 7) := by
  intro d
  induction d with
  | zero =>
    intro xs p hs hp hl hx
    refine ⟨xs, ?_, by omega, hx⟩
    apply Ev.succ
    simp only [spec_B10Needs.l0]
    exact Ev.cond (fun h' => absurd h' (by decide)) (fun _ => Ev.now _)
  | succ d ih =>
    intro xs p hs hp hl hx
    obtain ⟨v, hs', e, hv0, hv1⟩ := src_pick l h p hs 8 (by omega) (by omega) (by omega)
    obtain ⟨ys, g1, g2, g3⟩ := ih (xs ++ [v]) (p + 1) hs' (by omega) (by rw [List.length_append, List.length_singleton]; omega) (by
      intro x hx2
      rcases List.mem_append.1 hx2 with hx2 | hx2
      · exact hx x hx2
      · rw [List.mem_singleton] at hx2; omega)
    refine ⟨ys, ?_, by rw [g2, List.length_append, List.length_singleton]; omega, g3⟩
    have e2 : wrap64 (((d + 1 : Nat) : Int) - 1) = (d : Int) := by rw [w64 (by omega) (by omega)]; omega
    have c1 : ((d + 1 : Nat) : Int) > 0 := by omega
    have c2 : xs.length < 17592186044416 := by omega
    apply Ev.succ
    simp only [spec_B10Needs.l0, e2]
    refine Ev.cond (fun _ => ?_) (fun h' => absurd c1 h')
    refine Ev.bind (Ev.const e) ?_
    exact Ev.cond (fun _ => g1) (fun h' => absurd c2 h')
theorem B10Needs_ev (l : List Int) (h : ∀ x ∈ l, (Lit.int .u8 x).wf = true) : ∃ ys : List Int, Ev (fun k => spec_B10Needs.f k l) ys ∧ 1 ≤ ys.length ∧ ys.length ≤ 6 ∧ (∀ x ∈ ys, 0 ≤ x ∧ x ≤ 7) := by
  obtain ⟨v, hs', e, hv0, hv1⟩ := src_pick l h 0 0 6 (by omega) (by omega) (by omega)
  obtain ⟨m, rfl⟩ := Int.eq_ofNat_of_zero_le hv0
  obtain ⟨ys, g1, g2, g3⟩ := B10Needs_l0 l h (1 + m) [] 1 hs' (by omega) (by simp; omega) (by simp)
  refine ⟨ys, ?_, by simp at g2; omega, by simp at g2; omega, g3⟩
  have e2 : wrap64 (1 + (m : Int)) = ((1 + m : Nat) : Int) := by rw [w64 (by omega) (by omega)]; omega
  unfold spec_B10Needs.f
  have e0 : spec_l00From.f l = some (l, 0, 0) := rfl
  refine Ev.bind (Ev.const e0) ?_
  refine Ev.bind (Ev.const e) ?_
  rw [e2]
  exact g1

/-- What holds while stations send with a token. -/
def TuP (xs : List Int) (N : Nat) (l o : List Int) (t : Int) (_ : Nat) : Prop :=
  (∀ j : Nat, j < N → rd l (j : Int) ≤ rd xs (j : Int) ∧ rd xs (j : Int) - rd l (j : Int) ≤ rd o (j : Int) ∧ (rd o (j : Int) = 0 ↔ rd l (j : Int) = rd xs (j : Int)) ∧ rd xs (j : Int) - rd l (j : Int) ≤ t) ∧
    sumL xs - sumL l ≤ t ∧ (sumL xs = sumL l ∨ ∃ j : Nat, j < N ∧ sumL xs - sumL l ≤ rd o (j : Int))
theorem TuP_step {xs : List Int} {h w : Int} (hh : 1 ≤ h ∧ h ≤ 1000) (hw : 0 ≤ w ∧ w ≤ 1000) {N : Nat} (l o : List Int) (t : Int) (i : Nat) (hi : i < N) (H : TkOK N l o t)
    (g : TuP xs N l o t i) : TuP xs N (tkLeft h l i) (tkOut h t l o i) (t + tkN h l i + w) (i + 1) := by
  obtain ⟨a1, a2, a3⟩ := g
  have hn := tkN_in hh.1 H hi
  have hs := tkSum (h := h) H hi
  have hil : i < l.length := by rw [H.ll]; exact hi
  have hio : i < o.length := by rw [H.lo]; exact hi
  have ht0 := H.ht
  by_cases hp : tkN h l i > 0
  · have hO : tkOut h t l o i = o.set i (t + tkN h l i) := if_pos hp
    rw [hO]
    refine ⟨fun j hj => ?_, by rw [hs]; omega, .inr ⟨i, hi, by rw [hs, rd_setn _ _ _ _ hio, if_pos rfl]; omega⟩⟩
    have b := a1 j hj
    unfold tkLeft
    rw [rd_setn _ _ _ _ hil, rd_setn _ _ _ _ hio]
    by_cases hji : i = j
    · subst hji
      rw [if_pos rfl, if_pos rfl]
      refine ⟨by omega, by omega, ⟨fun h' => by omega, fun h' => by omega⟩, by omega⟩
    · rw [if_neg hji, if_neg hji]
      exact ⟨b.1, b.2.1, b.2.2.1, by omega⟩
  · have h0 : tkN h l i = 0 := by omega
    have hO : tkOut h t l o i = o := if_neg hp
    have hL : tkLeft h l i = l := by unfold tkLeft; rw [h0, Int.sub_zero, rd_get hil, List.set_getElem_self]
    rw [hO, hL]
    refine ⟨fun j hj => ?_, by omega, a3⟩
    have b := a1 j hj
    exact ⟨b.1, b.2.1, b.2.2.1, by omega⟩
theorem TR_turn {xs : List Int} {h w : Int} (hh : 1 ≤ h ∧ h ≤ 1000) (hw : 0 ≤ w ∧ w ≤ 1000) (hN : 1 ≤ xs.length ∧ xs.length ≤ 12) (hb : inAll 0 1000 xs = true) :
    ∃ o : List Int, o.length = xs.length ∧ (∀ j : Nat, j < xs.length → rd xs (j : Int) ≤ rd o (j : Int) ∧ (rd o (j : Int) = 0 ↔ rd xs (j : Int) = 0)) ∧ sumL xs ≤ maxL o ∧ Ev (fun k => impl_TokenRounds.f k xs h w) (o, maxL o, true) := by
  have hx : ∀ j : Nat, j < xs.length → 0 ≤ rd xs (j : Int) ∧ rd xs (j : Int) ≤ 1000 := fun j hj => inAll_mem hb _ (rd_mem hj)
  have hsb : sumL xs ≤ 1000 * (xs.length : Int) := sumL_le xs 1000 (all_rd (fun j hj => (hx j hj).2))
  have hnn := sumL_nonneg xs (all_rd (fun j hj => (hx j hj).1))
  have hrep : ∀ j : Nat, rd (List.replicate xs.length (0 : Int)) (j : Int) = 0 := by
    intro j
    rw [rd_nat, List.getD_eq_getElem?_getD, List.getElem?_replicate]
    split <;> rfl
  have H : TkOK xs.length xs (List.replicate xs.length 0) 0 := ⟨rfl, List.length_replicate, hx, Int.le_refl _⟩
  have p0 : TuP xs xs.length xs (List.replicate xs.length 0) 0 0 := by
    refine ⟨fun j hj => ?_, by omega, .inl rfl⟩
    rw [hrep]
    exact ⟨Int.le_refl _, by omega, by simp, by omega⟩
  obtain ⟨l', o', t', g1, ⟨b1, b2, b3⟩, g3, g4⟩ := tk_all hh hw hN (TuP xs xs.length) (fun l o t i hi H _ g => TuP_step hh hw l o t i hi H g) (fun l o t g => g)
    (sumL xs).toNat xs (List.replicate xs.length 0) 0 (by omega) H p0 (by omega)
  have hs : sumL l' = 0 := by
    have h1 := sumL_nonneg l' (all_rd (fun j hj => (g1.hl j (by rw [← g1.ll]; exact hj)).1))
    have h2 := sumL_le l' 0 (all_rd (fun j hj => by rw [g3 j (by rw [← g1.ll]; exact hj)]; exact Int.le_refl _))
    omega
  have hfit : ∀ j : Nat, j < xs.length → rd xs (j : Int) ≤ rd o' (j : Int) ∧ (rd o' (j : Int) = 0 ↔ rd xs (j : Int) = 0) := by
    intro j hj
    obtain ⟨c1, c2, c3, c4⟩ := b1 j hj
    rw [g3 j hj] at c1 c2 c3 c4
    refine ⟨by omega, fun h' => (c3.1 h').symm, fun h' => c3.2 h'.symm⟩
  refine ⟨o', g1.lo, hfit, ?_, ?_⟩
  · rw [hs] at b3
    rcases b3 with h0 | ⟨j, hj, e⟩
    · have h1 := maxL_ge (rd_mem (xs := o') (n := 0) (by rw [g1.lo]; omega))
      have h2 := hfit 0 (by omega)
      have h3 := hx 0 (by omega)
      omega
    · have h1 := maxL_ge (rd_mem (xs := o') (n := j) (by rw [g1.lo]; exact hj))
      omega
  · have hB := areNeeds_ev xs (by omega)
    rw [hb, decide_eq_true (show 1 ≤ (xs.length : Int) ∧ (xs.length : Int) ≤ 12 by omega)] at hB
    have c1 : (0 : Int) ≤ (xs.length : Int) := by omega
    have c2 : xs.length ≤ 35184372088832 := by omega
    unfold impl_TokenRounds.f
    refine Ev.bind hB ?_
    refine Ev.cond (fun _ => ?_) (fun h' => absurd (by trivial) h')
    refine Ev.bind (Ev.const (within_eq _ _ _)) ?_
    rw [decide_eq_true hh]
    refine Ev.cond (fun _ => ?_) (fun h' => absurd (by trivial) h')
    refine Ev.bind (Ev.const (within_eq _ _ _)) ?_
    rw [decide_eq_true hw]
    apply Ev.succ
    simp only [impl_TokenRounds.j0, Int.toNat_natCast]
    refine Ev.cond (fun h' => absurd h' (by decide)) (fun _ => ?_)
    have e0 : slices_Clone_int64_int64.f xs = some xs := by
      unfold slices_Clone_int64_int64.f
      rw [if_pos (by omega)]
    refine Ev.bind (Ev.const e0) ?_
    refine Ev.cond (fun _ => ?_) (fun h' => absurd c1 h')
    exact Ev.cond (fun _ => g4) (fun h' => absurd c2 h')
/-- How often a number stands in lists. -/
def cntL (j : Int) : List Int → Int
  | [] => 0
  | x :: r => (if x = j then 1 else 0) + cntL j r
def cntLL (j : Int) : List (List Int) → Int
  | [] => 0
  | x :: r => cntL j x + cntLL j r
theorem cntL_append (j : Int) (a b : List Int) : cntL j (a ++ b) = cntL j a + cntL j b := by
  induction a with
  | nil => simp [cntL]
  | cons x a ih => simp only [List.cons_append, cntL, ih]; omega
theorem cntLL_append (j : Int) (a : List (List Int)) (b : List Int) : cntLL j (a ++ [b]) = cntLL j a + cntL j b := by
  induction a with
  | nil => simp [cntLL]
  | cons x a ih => simp only [List.cons_append, cntLL, ih]; omega
theorem cntL_nn (j : Int) (a : List Int) : 0 ≤ cntL j a := by
  induction a with
  | nil => exact Int.le_refl _
  | cons x a ih => simp only [cntL]; split <;> omega
theorem cntLL_nn (j : Int) (a : List (List Int)) : 0 ≤ cntLL j a := by
  induction a with
  | nil => exact Int.le_refl _
  | cons x a ih => have := cntL_nn j x; simp only [cntLL]; omega
theorem L2_nat (xs : List (List Int)) (k : Nat) : rd_L2 xs (k : Int) = xs.getD k [] := by unfold rd_L2; rw [Int.toNat_natCast]
theorem L2_drop {xs : List (List Int)} {n : Nat} (h : n < xs.length) : xs.drop n = rd_L2 xs (n : Int) :: xs.drop (n + 1) := by
  rw [L2_nat, List.getD_eq_getElem?_getD, List.getElem?_eq_getElem h, List.drop_eq_getElem_cons h]; rfl
theorem L2_left {xs : List (List Int)} {b : List Int} {k : Nat} (h : k < xs.length) : rd_L2 (xs ++ [b]) (k : Int) = rd_L2 xs (k : Int) := by
  rw [L2_nat, L2_nat, List.getD_eq_getElem?_getD, List.getD_eq_getElem?_getD, List.getElem?_append_left h]
theorem L2_last {xs : List (List Int)} {b : List Int} : rd_L2 (xs ++ [b]) (xs.length : Int) = b := by
  rw [L2_nat, List.getD_eq_getElem?_getD, List.getElem?_append_right (Nat.le_refl _)]; simp
/-- A frame's numbers are stations. -/
def stOK (N : Nat) (ys : List Int) : Prop := ∀ x ∈ ys, 0 ≤ x ∧ x < (N : Int)
def RvP (xs : List Int) (N : Nat) (f : Int) (l : List Int) (out : List (List Int)) (own : List Int) (_ : Nat) : Prop :=
  (∀ j : Nat, j < N → cntLL (j : Int) out + cntL (j : Int) own + rd l (j : Int) = rd xs (j : Int)) ∧ stOK N own ∧
    (∀ k : Nat, k < out.length → ((rd_L2 out (k : Int)).length : Int) = f ∧ stOK N (rd_L2 out (k : Int))) ∧ (out.length : Int) + (own.length : Int) + sumL l ≤ sumL xs
def RvZ (xs : List Int) (N : Nat) (f : Int) (l : List Int) (out : List (List Int)) : Prop :=
  (∀ j : Nat, j < N → cntLL (j : Int) out + rd l (j : Int) = rd xs (j : Int)) ∧ (out.length : Int) + sumL l ≤ sumL xs ∧
    (∀ k : Nat, k < out.length → 1 ≤ (rd_L2 out (k : Int)).length ∧ ((rd_L2 out (k : Int)).length : Int) ≤ f ∧ stOK N (rd_L2 out (k : Int)) ∧ (k + 1 < out.length ∨ maxL l > 0 → ((rd_L2 out (k : Int)).length : Int) = f))
theorem RvP_step (xs : List Int) (N : Nat) (f : Int) : RsStep N f (RvP xs N f) := by
  intro l out own i hi H g
  obtain ⟨a1, a2, a3, a4⟩ := g
  refine ⟨fun hc => ?_, fun _ => ⟨a1, a2, a3, a4⟩⟩
  have hil : i < l.length := by rw [H.ll]; exact hi
  refine ⟨fun j hj => ?_, fun x hx => ?_, a3, ?_⟩
  · have b := a1 j hj
    rw [cntL_append]
    unfold rsTake
    rw [rd_setn _ _ _ _ hil]
    simp only [cntL]
    by_cases hji : i = j
    · subst hji
      rw [if_pos rfl, if_pos rfl]; omega
    · rw [if_neg hji, if_neg (show ¬ (i : Int) = (j : Int) by omega)]; omega
  · rcases List.mem_append.1 hx with hx | hx
    · exact a2 x hx
    · rw [List.mem_singleton] at hx; omega
  · rw [rsSum H hi, List.length_append, List.length_singleton]; omega
theorem RS_turn {xs : List Int} {f : Int} (hf : 1 ≤ f ∧ f ≤ 20) (hN : 1 ≤ xs.length ∧ xs.length ≤ 12) (hb : inAll 0 1000 xs = true) (hsum : sumL xs ≤ 200) :
    ∃ out : List (List Int), out.length ≤ 300 ∧ (∀ j : Nat, j < xs.length → cntLL (j : Int) out = rd xs (j : Int)) ∧
      (∀ k : Nat, k < out.length → 1 ≤ (rd_L2 out (k : Int)).length ∧ ((rd_L2 out (k : Int)).length : Int) ≤ f ∧ stOK xs.length (rd_L2 out (k : Int)) ∧ (k + 1 < out.length → ((rd_L2 out (k : Int)).length : Int) = f)) ∧
      Ev (fun k => impl_ReserveSlots.f k xs f) (out, true) := by
  have hx : ∀ j : Nat, j < xs.length → 0 ≤ rd xs (j : Int) ∧ rd xs (j : Int) ≤ 1000 := fun j hj => inAll_mem hb _ (rd_mem hj)
  have hnn := sumL_nonneg xs (all_rd (fun j hj => (hx j hj).1))
  have H : RsOK xs.length xs := ⟨rfl, hx⟩
  have z0 : RvZ xs xs.length f xs [] := ⟨fun j _ => by simp [cntLL], by simp, fun k hk => absurd hk (by simp)⟩
  obtain ⟨l', out, g1, ⟨b1, b2, b3⟩, g3, g4⟩ := rs_l0 hN hf (RvP xs xs.length f) (RvZ xs xs.length f) (RvP_step xs xs.length f) (fun l out own g => g)
    (fun l out _ hm _ z => by
      obtain ⟨c1, c2, c3⟩ := z
      exact ⟨fun j hj => by have := c1 j hj; simp only [cntL]; omega, fun x hx => absurd hx (by simp), fun k hk => ⟨(c3 k hk).2.2.2 (.inr hm), (c3 k hk).2.2.1⟩, by simp only [List.length_nil]; omega⟩)
    (fun l out own _ h1 h2 h3 z => by
      obtain ⟨c1, c2, c3, c4⟩ := z
      refine ⟨fun j hj => by rw [cntLL_append]; exact c1 j hj, by rw [List.length_append, List.length_singleton]; omega, fun k hk => ?_⟩
      rw [List.length_append, List.length_singleton] at hk
      by_cases hk2 : k < out.length
      · rw [L2_left hk2]
        obtain ⟨d1, d2⟩ := c3 k hk2
        exact ⟨by omega, by omega, d2, fun _ => d1⟩
      · obtain rfl : k = out.length := by omega
        rw [L2_last]
        refine ⟨h1, h2, c2, fun h' => ?_⟩
        rcases h' with h' | h'
        · rw [List.length_append, List.length_singleton] at h'; omega
        · rcases h3 with h3 | h3
          · exact h3
          · exact absurd h' h3)
    (sumL xs).toNat xs [] (by omega) (by simp) H z0
  have hl0 := sumL_nonneg l' g1.nn
  rcases g4 with ⟨k1, k2⟩ | ⟨k1, k2, _⟩
  · have hz := rs_zero g1 k1
    refine ⟨out, g3, fun j hj => by have := b1 j hj; rw [hz j hj] at this; omega, fun k hk => ?_, ?_⟩
    · obtain ⟨d1, d2, d3, d4⟩ := b3 k hk
      exact ⟨d1, d2, d3, fun h => d4 (.inl h)⟩
    · have hB := areNeeds_ev xs (by omega)
      rw [hb, decide_eq_true (show 1 ≤ (xs.length : Int) ∧ (xs.length : Int) ≤ 12 by omega)] at hB
      have hW : impl_isWindow.f f = some true := by
        unfold impl_isWindow.f
        rw [within_eq, decide_eq_true hf]; rfl
      unfold impl_ReserveSlots.f
      refine Ev.bind hB ?_
      refine Ev.cond (fun _ => ?_) (fun h' => absurd (by trivial) h')
      refine Ev.bind (Ev.const hW) ?_
      apply Ev.succ
      simp only [impl_ReserveSlots.j0]
      refine Ev.cond (fun h' => absurd h' (by decide)) (fun _ => ?_)
      have e0 : slices_Clone_int64_int64.f xs = some xs := by
        unfold slices_Clone_int64_int64.f
        rw [if_pos (by omega)]
      exact Ev.bind (Ev.const e0) k2
  · omega
theorem TL_l2 {xs : List Int} {f : Int} {list : List (List Int)} (hN : xs.length ≤ 12) (hx : ∀ j : Nat, j < xs.length → rd xs (j : Int) ≤ 1000) {i : Nat} (hi : i < list.length) (hst : stOK xs.length (rd_L2 list (i : Int))) (hlen : (rd_L2 list (i : Int)).length ≤ 1000) :
    ∀ (d n : Nat) (got : List Int), n + d = (rd_L2 list (i : Int)).length → got.length = xs.length →
      (∀ j : Nat, j < xs.length → 0 ≤ rd got (j : Int) ∧ rd got (j : Int) + cntL (j : Int) ((rd_L2 list (i : Int)).drop n) + cntLL (j : Int) (list.drop (i + 1)) = rd xs (j : Int)) →
      (∀ got2 : List Int, got2.length = xs.length → (∀ j : Nat, j < xs.length → 0 ≤ rd got2 (j : Int) ∧ rd got2 (j : Int) + cntLL (j : Int) (list.drop (i + 1)) = rd xs (j : Int)) → Ev (fun k => laws_FnTurns.l1 k xs f list got2 (wrap64 ((i : Int) + 1))) true) →
      Ev (fun k => laws_FnTurns.l2 k xs f list got (i : Int) (n : Int)) true := by
  intro d
  have c1 : (0 : Int) ≤ (i : Int) := Int.natCast_nonneg _
  have c2 : (i : Int) < (list.length : Int) := Int.ofNat_lt.2 hi
  generalize hown : rd_L2 list (i : Int) = own at *
  induction d with
  | zero =>
    intro n got h hg hinv next
    have c3 : ¬ (n : Int) < (own.length : Int) := by omega
    apply Ev.succ
    simp only [laws_FnTurns.l2, hown]
    refine Ev.cond (fun _ => ?_) (fun h' => absurd c1 h')
    refine Ev.cond (fun _ => ?_) (fun h' => absurd c2 h')
    refine Ev.cond (fun h' => absurd h' c3) (fun _ => ?_)
    refine next got hg (fun j hj => ?_)
    have b := hinv j hj
    rw [List.drop_eq_nil_of_le (by omega)] at b
    simp only [cntL] at b
    omega
  | succ d ih =>
    intro n got h hg hinv next
    have hn : n < own.length := by omega
    have c3 : (n : Int) < (own.length : Int) := by omega
    have c4 : (0 : Int) ≤ (n : Int) := by omega
    have hx2 := hst _ (rd_mem hn)
    have hdrop := drop_rd hn
    obtain ⟨x, hxx⟩ := Int.eq_ofNat_of_zero_le hx2.1
    rw [hxx] at hx2 hdrop
    have hxN : x < xs.length := by omega
    have c5 : ¬ (x : Int) < 0 := by omega
    have c6 : ¬ (x : Int) ≥ (xs.length : Int) := by omega
    have c7 : (x : Int) < (got.length : Int) := by omega
    have c8 : (0 : Int) ≤ (x : Int) := by omega
    have bx := hinv x hxN
    have hxb := hx x hxN
    have hcn := cntLL_nn (x : Int) (list.drop (i + 1))
    have hcn2 := cntL_nn (x : Int) (own.drop (n + 1))
    rw [hdrop] at bx
    simp only [cntL, if_true] at bx
    have e1 : wrap64 (rd got (x : Int) + 1) = rd got (x : Int) + 1 := w64 (by omega) (by omega)
    apply Ev.succ
    simp only [laws_FnTurns.l2, hown, hxx, e1, Int.toNat_natCast, w64_succ (show n < 9223372036854775807 by omega)]
    refine Ev.cond (fun _ => ?_) (fun h' => absurd c1 h')
    refine Ev.cond (fun _ => ?_) (fun h' => absurd c2 h')
    refine Ev.cond (fun _ => ?_) (fun h' => absurd c3 h')
    refine Ev.cond (fun _ => ?_) (fun h' => absurd c4 h')
    refine Ev.cond (fun h' => absurd h' c5) (fun _ => ?_)
    refine Ev.cond (fun h' => absurd h' c6) (fun _ => ?_)
    refine Ev.cond (fun _ => ?_) (fun h' => absurd c8 h')
    refine Ev.cond (fun _ => ?_) (fun h' => absurd c7 h')
    refine ih (n + 1) _ (by omega) (by rw [List.length_set]; exact hg) (fun j hj => ?_) next
    have b := hinv j hj
    rw [hdrop] at b
    simp only [cntL] at b
    rw [rd_setn _ _ _ _ (by rw [hg]; exact hxN)]
    by_cases hjx : x = j
    · subst hjx
      rw [if_pos rfl]; omega
    · rw [if_neg hjx]
      rw [if_neg (show ¬ (x : Int) = (j : Int) by omega)] at b; omega
theorem TL_l1 {xs : List Int} {f : Int} {list : List (List Int)} (hf : f ≤ 20) (hN : xs.length ≤ 12) (hx : ∀ j : Nat, j < xs.length → rd xs (j : Int) ≤ 1000) (hl : list.length ≤ 300)
    (hk : ∀ k : Nat, k < list.length → 1 ≤ (rd_L2 list (k : Int)).length ∧ ((rd_L2 list (k : Int)).length : Int) ≤ f ∧ stOK xs.length (rd_L2 list (k : Int)) ∧ (k + 1 < list.length → ((rd_L2 list (k : Int)).length : Int) = f)) :
    ∀ (d n : Nat) (got : List Int), n + d = list.length → got.length = xs.length →
      (∀ j : Nat, j < xs.length → 0 ≤ rd got (j : Int) ∧ rd got (j : Int) + cntLL (j : Int) (list.drop n) = rd xs (j : Int)) → Ev (fun k => laws_FnTurns.l1 k xs f list got (n : Int)) true := by
  intro d
  induction d with
  | zero =>
    intro n got h hg hinv
    have c1 : ¬ (n : Int) < (list.length : Int) := by omega
    have e : got = xs := by
      apply List.ext_getElem hg
      intro j h1 h2
      have b := (hinv j h2).2
      rw [List.drop_eq_nil_of_le (by omega)] at b
      simp only [cntLL, Int.add_zero] at b
      rwa [rd_get h1, rd_get h2] at b
    rw [e]
    apply Ev.succ
    simp only [laws_FnTurns.l1]
    refine Ev.cond (fun h' => absurd h' c1) (fun _ => ?_)
    exact Ev.bind (b10Nums_same xs (by omega)) (Ev.now _)
  | succ d ih =>
    intro n got h hg hinv
    have hn : n < list.length := by omega
    have c1 : (n : Int) < (list.length : Int) := by omega
    have c2 : (0 : Int) ≤ (n : Int) := by omega
    obtain ⟨k1, k2, k3, k4⟩ := hk n hn
    have c3 : ¬ ((rd_L2 list (n : Int)).length : Int) = 0 := by omega
    have c4 : ¬ ((rd_L2 list (n : Int)).length : Int) > f := by omega
    have hw := w64_succ (show n < 9223372036854775807 by omega)
    have fin : Ev (fun k => laws_FnTurns.j5 k xs f list got (n : Int) false) true := by
      apply Ev.succ
      simp only [laws_FnTurns.j5]
      refine Ev.cond (fun h' => absurd h' (by decide)) (fun _ => ?_)
      refine TL_l2 hN hx hn k3 (by omega) (rd_L2 list (n : Int)).length 0 got (by omega) hg (fun j hj => ?_) (fun got2 hg2 hinv2 => ?_)
      · have b := hinv j hj
        rw [L2_drop hn] at b
        simp only [cntLL] at b
        rw [List.drop_zero]; omega
      · rw [hw]
        exact ih (n + 1) got2 (by omega) hg2 hinv2
    apply Ev.succ
    simp only [laws_FnTurns.l1, hw]
    refine Ev.cond (fun _ => ?_) (fun h' => absurd c1 h')
    refine Ev.cond (fun _ => ?_) (fun h' => absurd c2 h')
    refine Ev.cond (fun h' => absurd h' c3) (fun _ => ?_)
    refine Ev.cond (fun h' => absurd h' c4) (fun _ => ?_)
    refine Ev.cond (fun h' => ?_) (fun _ => fin)
    rw [k4 (by omega), bne_self_eq_false]
    exact fin
theorem maxR_zero {l : List Int} (h : 0 < l.length) (h0 : ∀ x ∈ l, 0 ≤ x) : maxR 0 l = maxL l := by
  cases l with
  | nil => exact absurd h (by simp)
  | cons y l =>
    have := h0 y List.mem_cons_self
    simp only [maxR, maxL]
    rw [show max 0 y = y by omega]
theorem TL_l0 {xs done : List Int} {w f : Int} {list : List (List Int)} (hw : 0 ≤ w ∧ w ≤ 1000) (hN : 1 ≤ xs.length ∧ xs.length ≤ 12) (hx : ∀ j : Nat, j < xs.length → 0 ≤ rd xs (j : Int) ∧ rd xs (j : Int) ≤ 1000) (hd : done.length = xs.length)
    (hfit : ∀ j : Nat, j < xs.length → rd xs (j : Int) ≤ rd done (j : Int) ∧ (rd done (j : Int) = 0 ↔ rd xs (j : Int) = 0)) (hsum : sumL xs ≤ maxL done)
    (fin : Ev (fun k => laws_FnTurns.l1 k xs f list (List.replicate xs.length 0) 0) true) :
    ∀ (d n : Nat) (t L : Int), n + d = xs.length → 0 ≤ t → t ≤ 2000 * (n : Int) → (pollTimes w xs 0).drop n = pollTimes w (xs.drop n) t → maxR L (done.drop n) = maxL done →
      Ev (fun k => laws_FnTurns.l0 k xs w f (pollTimes w xs 0) done (maxL done) list t L (n : Int)) true := by
  intro d
  induction d with
  | zero =>
    intro n t L h h0 ht hp hm
    have c1 : ¬ (n : Int) < (xs.length : Int) := by omega
    rw [List.drop_eq_nil_of_le (by omega)] at hm
    simp only [maxR] at hm
    have c2 : (0 : Int) ≤ (xs.length : Int) := by omega
    have c3 : xs.length ≤ 35184372088832 := by omega
    apply Ev.succ
    simp only [laws_FnTurns.l0]
    refine Ev.cond (fun h' => absurd h' c1) (fun _ => ?_)
    refine Ev.cond (fun _ => ?_) (fun h' => absurd hm h')
    refine Ev.bind (b10Sum_ev xs (by omega) hx) ?_
    rw [decide_eq_false (show ¬ maxL done < sumL xs by omega)]
    apply Ev.succ
    simp only [laws_FnTurns.j3, Int.toNat_natCast]
    refine Ev.cond (fun h' => absurd h' (by decide)) (fun _ => ?_)
    refine Ev.cond (fun _ => ?_) (fun h' => absurd c2 h')
    exact Ev.cond (fun _ => fin) (fun h' => absurd c3 h')
  | succ d ih =>
    intro n t L h h0 ht hp hm
    have hn : n < xs.length := by omega
    have hxn := hx n hn
    have hf2 := hfit n hn
    have hpl : (pollTimes w xs 0).length = xs.length := pollTimes_length w xs 0
    have hnp : n < (pollTimes w xs 0).length := by rw [hpl]; exact hn
    rw [drop_rd hnp, drop_rd hn] at hp
    simp only [pollTimes, List.cons.injEq] at hp
    rw [drop_rd (show n < done.length by omega)] at hm
    simp only [maxR] at hm
    have c1 : (n : Int) < (xs.length : Int) := by omega
    have c2 : (0 : Int) ≤ (n : Int) := by omega
    have c3 : (n : Int) < ((pollTimes w xs 0).length : Int) := by omega
    have c4 : (n : Int) < (done.length : Int) := by omega
    have c5 : ¬ rd done (n : Int) < rd xs (n : Int) := by omega
    have e1 : wrap64 (rd xs (n : Int) + w) = rd xs (n : Int) + w := w64 (by omega) (by omega)
    have e2 : wrap64 (t + (rd xs (n : Int) + w)) = t + (rd xs (n : Int) + w) := w64 (by omega) (by omega)
    have e3 : ((rd done (n : Int) == 0) != (rd xs (n : Int) == 0)) = false := by
      by_cases hz : rd xs (n : Int) = 0
      · rw [hz, hf2.2.2 hz]; rfl
      · have hz2 : ¬ rd done (n : Int) = 0 := fun e => hz (hf2.2.1 e)
        rw [beq_eq_false_iff_ne.2 hz, beq_eq_false_iff_ne.2 hz2]; rfl
    have h3 := ih (n + 1) (t + (rd xs (n : Int) + w)) (max L (rd done (n : Int))) (by omega) (by omega) (by omega) hp.2 hm
    apply Ev.succ
    simp only [laws_FnTurns.l0, e3]
    refine Ev.cond (fun _ => ?_) (fun h' => absurd c1 h')
    refine Ev.cond (fun _ => ?_) (fun h' => absurd c2 h')
    refine Ev.cond (fun _ => ?_) (fun h' => absurd c3 h')
    refine Ev.cond (fun _ => ?_) (fun h' => absurd hp.1 h')
    refine Ev.cond (fun _ => ?_) (fun h' => absurd c4 h')
    refine Ev.cond (fun h' => absurd h' c5) (fun _ => ?_)
    apply Ev.succ
    simp only [laws_FnTurns.j2, e1, e2, w64_succ (show n < 9223372036854775807 by omega)]
    refine Ev.cond (fun h' => absurd h' (by decide)) (fun _ => ?_)
    refine Ev.cond (fun _ => ?_) (fun h' => absurd c2 h')
    refine Ev.cond (fun _ => ?_) (fun h' => absurd c1 h')
    refine Ev.cond (fun _ => ?_) (fun h' => absurd c4 h')
    by_cases hg : rd done (n : Int) > L
    · rw [show max L (rd done (n : Int)) = rd done (n : Int) by omega] at h3
      exact Ev.cond (fun _ => h3) (fun h' => absurd hg h')
    · rw [show max L (rd done (n : Int)) = L by omega] at h3
      exact Ev.cond (fun h' => absurd h' hg) (fun _ => h3)
theorem FnTurns : laws_FnTurns.Pure := by
  intro l m hl hl2 hlw hm hm2 hmw
  refine Ev.rounds ?_
  unfold laws_FnTurns.f
  obtain ⟨b, hb⟩ := b10Long_eq l m
  refine Ev.bind (Ev.const hb) ?_
  refine Ev.cond (fun _ => Ev.now _) (fun _ => ?_)
  obtain ⟨xs, g1, g2, g3, g4⟩ := B10Needs_ev l hlw
  obtain ⟨w, hw, hw0, hw1⟩ := b10At_eq m hmw 0 4 (by omega) (by omega)
  obtain ⟨h, hh, hh0, hh1⟩ := b10At_eq m hmw 1 4 (by omega) (by omega)
  obtain ⟨f, hf, hf0, hf1⟩ := b10At_eq m hmw 2 5 (by omega) (by omega)
  have e1 : wrap64 (1 + h) = 1 + h := w64 (by omega) (by omega)
  have e2 : wrap64 (1 + f) = 1 + f := w64 (by omega) (by omega)
  have hin : inAll 0 1000 xs = true := inAll_of (fun x hx => by have := g4 x hx; omega)
  have hx7 : ∀ j : Nat, j < xs.length → 0 ≤ rd xs (j : Int) ∧ rd xs (j : Int) ≤ 7 := fun j hj => g4 _ (rd_mem hj)
  have hx : ∀ j : Nat, j < xs.length → 0 ≤ rd xs (j : Int) ∧ rd xs (j : Int) ≤ 1000 := fun j hj => by have := hx7 j hj; omega
  have hsum : sumL xs ≤ 7 * (xs.length : Int) := sumL_le xs 7 (fun x hx => (g4 x hx).2)
  have hnn := sumL_nonneg xs (fun x hx => (g4 x hx).1)
  have p1 := PCi_ev xs w (by omega) hin (by omega)
  obtain ⟨done, d1, d2, d3, d4⟩ := TR_turn (h := 1 + h) (w := w) (by omega) (by omega) (by omega) hin
  obtain ⟨list, r1, r2, r3, r4⟩ := RS_turn (f := 1 + f) (by omega) (by omega) hin (by omega)
  refine Ev.bind g1 (Ev.bind (Ev.const hw) (Ev.bind (Ev.const hh) (Ev.bind (Ev.const hf) ?_)))
  rw [e1, e2]
  refine Ev.bind p1 (Ev.bind d4 (Ev.bind r4 ?_))
  have c1 : ((pollTimes w xs 0).length : Int) = (xs.length : Int) := by rw [pollTimes_length]
  have c2 : (done.length : Int) = (xs.length : Int) := by rw [d1]
  refine Ev.cond (fun _ => ?_) (fun h' => absurd (by trivial) h')
  refine Ev.cond (fun _ => ?_) (fun h' => absurd (by trivial) h')
  refine Ev.cond (fun _ => ?_) (fun h' => absurd (by trivial) h')
  refine Ev.cond (fun _ => ?_) (fun h' => absurd c1 h')
  refine Ev.cond (fun _ => ?_) (fun h' => absurd c2 h')
  refine Ev.bind (b10Sum_ev xs (by omega) hx) ?_
  have hp0 : 0 ≤ w * (xs.length : Int) := Int.mul_nonneg hw0 (by omega)
  have hp1 : w * (xs.length : Int) ≤ 3 * 6 := Int.mul_le_mul (by omega) (by omega) (by omega) (by omega)
  have e3 : pollEnd w xs 0 = sumL xs + w * (xs.length : Int) := by rw [pollEnd_eq, Int.zero_add]
  have e4 : (pollEnd w xs 0 != wrap64 (sumL xs + wrap64 (w * (xs.length : Int)))) = false := by
    rw [e3]
    generalize w * (xs.length : Int) = q at *
    rw [w64 (x := q) (by omega) (by omega), w64 (by omega) (by omega), bne_self_eq_false]
  rw [e4]
  apply Ev.succ
  simp only [laws_FnTurns.j0]
  refine Ev.cond (fun h' => absurd h' (by decide)) (fun _ => ?_)
  have hdn : ∀ x ∈ done, 0 ≤ x := all_rd (fun j hj => by have h1 := hx j (by omega); have h2 := d2 j (by omega); omega)
  refine TL_l0 (by omega) (by omega) hx d1 d2 d3 ?_ xs.length 0 0 0 (by omega) (by omega) (by omega) (by rw [List.drop_zero, List.drop_zero]) (by rw [List.drop_zero]; exact maxR_zero (by omega) hdn)
  refine TL_l1 (by omega) (by omega) (fun j hj => (hx j hj).2) r1 r3 list.length 0 _ (by omega) List.length_replicate (fun j hj => ?_)
  have hrep : rd (List.replicate xs.length (0 : Int)) (j : Int) = 0 := by
    rw [rd_nat, List.getD_eq_getElem?_getD, List.getElem?_replicate]
    split <;> rfl
  rw [hrep, List.drop_zero, r2 j hj]
  omega

end Go.Proofs.Ytbgiddnffchnpaa.Pure
