/- For every list of needs, every hold and every walk the program's TokenRounds answers what the reference's does, and hands out memory of its own. -/
import Derived.Test.YtbgiddnffchnpaaQFnExactTokenRoundsx4
import Derived.Test.YtbgiddnffchnpaaBase
namespace Go.Proofs.Ytbgiddnffchnpaa.Pure
open Go.RowKit Go.Proofs.Ytbgiddnffchnpaa.QFnExactTokenRounds Go.Proofs.Ytbgiddnffchnpaa.Base Go.Proofs.YtbgiddnffchnpaaW.PrintWords Go.Proofs.YtbgiddnffchnpaaW.PrintLast Go.Proofs.YtbgiddnffchnpaaW.PrintMore
set_option linter.unusedVariables false
set_option linter.unusedSimpArgs false

/-! mxmn -/
theorem mx_eq (a b : Int) : mx a b = max a b := by unfold mx; split <;> omega
theorem mn_eq (a b : Int) : mn a b = min a b := by unfold mn; split <;> omega

/-! slicesMax -/
def maxR (m : Int) : List Int → Int
  | [] => m
  | x :: r => maxR (max m x) r
def maxL : List Int → Int
  | [] => 0
  | x :: r => maxR x r
theorem maxR_ge (l : List Int) : ∀ m, m ≤ maxR m l := by
  induction l with
  | nil => intro m; exact Int.le_refl _
  | cons x l ih => intro m; have := ih (max m x); simp only [maxR]; omega
theorem maxR_mem_ge (l : List Int) : ∀ m x, x ∈ l → x ≤ maxR m l := by
  induction l with
  | nil => intro m x h; exact absurd h (by simp)
  | cons y l ih =>
    intro m x h
    simp only [maxR]
    rcases List.mem_cons.1 h with rfl | h
    · have := maxR_ge l (max m x); omega
    · exact ih _ _ h
theorem maxR_in (l : List Int) : ∀ m, maxR m l = m ∨ maxR m l ∈ l := by
  induction l with
  | nil => intro m; exact .inl rfl
  | cons y l ih =>
    intro m
    simp only [maxR]
    rcases ih (max m y) with h | h
    · by_cases hm : m < y
      · right; rw [h, show max m y = y by omega]; exact List.mem_cons_self
      · left; rw [h]; omega
    · right; exact List.mem_cons_of_mem _ h
theorem maxL_ge {l : List Int} {x : Int} (h : x ∈ l) : x ≤ maxL l := by
  cases l with
  | nil => exact absurd h (by simp)
  | cons y l =>
    rcases List.mem_cons.1 h with rfl | h
    · exact maxR_ge l x
    · exact maxR_mem_ge l y x h
theorem maxL_mem {l : List Int} (h : 0 < l.length) : maxL l ∈ l := by
  cases l with
  | nil => exact absurd h (by simp)
  | cons y l =>
    rcases maxR_in l y with e | e
    · show maxR y l ∈ y :: l
      rw [e]; exact List.mem_cons_self
    · exact List.mem_cons_of_mem _ e
theorem Max_l0 (xs : List Int) (hx : xs.length ≤ 1099511627776) : ∀ (d n : Nat) (m : Int), n + d = xs.length → Ev (fun k => slices_Max_int64_int64.l0 k xs m (n : Int)) (maxR m (xs.drop n)) := by
  intro d
  induction d with
  | zero =>
    intro n m h
    have c1 : ¬ (n : Int) < (xs.length : Int) := by omega
    rw [List.drop_eq_nil_of_le (by omega)]
    apply Ev.succ
    simp only [slices_Max_int64_int64.l0]
    exact Ev.cond (fun h' => absurd h' c1) (fun _ => Ev.now _)
  | succ d ih =>
    intro n m h
    have c1 : (n : Int) < (xs.length : Int) := by omega
    have c2 : (0 : Int) ≤ (n : Int) := by omega
    have h3 := ih (n + 1) (max m (rd xs (n : Int))) (by omega)
    rw [drop_rd (show n < xs.length by omega)]
    apply Ev.succ
    simp only [slices_Max_int64_int64.l0, mx_eq, w64_succ (show n < 9223372036854775807 by omega)]
    refine Ev.cond (fun _ => ?_) (fun h' => absurd c1 h')
    exact Ev.cond (fun _ => h3) (fun h' => absurd c2 h')
theorem Max_ev (xs : List Int) (h0 : 0 < xs.length) (hx : xs.length ≤ 1099511627776) : Ev (fun k => slices_Max_int64_int64.f k xs) (maxL xs) := by
  cases xs with
  | nil => exact absurd h0 (by simp)
  | cons y l =>
    unfold slices_Max_int64_int64.f
    have c1 : ¬ ((y :: l).length : Int) < 1 := by simp only [List.length_cons]; omega
    have c2 : 0 < ((y :: l).length : Int) := by simp only [List.length_cons]; omega
    refine Ev.cond (fun h' => absurd h' c1) (fun _ => ?_)
    refine Ev.cond (fun _ => ?_) (fun h' => absurd c2 h')
    have h := Max_l0 (y :: l) hx l.length 1 y (by simp only [List.length_cons]; omega)
    exact h

/-! rdset -/
theorem rd_set_same {xs : List Int} {s v : Int} (h0 : 0 ≤ s) (h : s < (xs.length : Int)) : rd (xs.set s.toNat v) s = v := by
  unfold rd
  rw [List.getD_eq_getElem?_getD, List.getElem?_set_self (by omega)]; rfl
theorem rd_set_ne {xs : List Int} {s t v : Int} (h0 : 0 ≤ s) (h1 : 0 ≤ t) (h : s ≠ t) : rd (xs.set s.toNat v) t = rd xs t := by
  unfold rd
  rw [List.getD_eq_getElem?_getD, List.getD_eq_getElem?_getD, List.getElem?_set_ne (by omega)]

/-! sumL -/
def sumL : List Int → Int
  | [] => 0
  | x :: r => x + sumL r
theorem rd_zero (x : Int) (r : List Int) : rd (x :: r) ((0 : Nat) : Int) = x := rfl
theorem rd_succ (x : Int) (r : List Int) (i : Nat) : rd (x :: r) ((i + 1 : Nat) : Int) = rd r (i : Int) := by
  rw [rd_nat, rd_nat]; rfl
theorem sumL_set (l : List Int) : ∀ (i : Nat) (v : Int), i < l.length → sumL (l.set i v) = sumL l - rd l (i : Int) + v := by
  induction l with
  | nil => intro i v h; exact absurd h (by simp)
  | cons x l ih =>
    intro i v h
    cases i with
    | zero => rw [rd_zero]; simp only [List.set_cons_zero, sumL]; omega
    | succ i =>
      have h2 := ih i v (by simpa using h)
      rw [rd_succ]
      simp only [List.set_cons_succ, sumL]; omega
theorem sumL_nonneg (l : List Int) : (∀ x ∈ l, 0 ≤ x) → 0 ≤ sumL l := by
  induction l with
  | nil => intro _; exact Int.le_refl _
  | cons x l ih =>
    intro h
    have h1 := h x List.mem_cons_self
    have h2 := ih (fun y hy => h y (List.mem_cons_of_mem _ hy))
    simp only [sumL]; omega
theorem sumL_ge (l : List Int) : (∀ x ∈ l, 0 ≤ x) → ∀ x ∈ l, x ≤ sumL l := by
  induction l with
  | nil => intro _ x hx; exact absurd hx (by simp)
  | cons y l ih =>
    intro h x hx
    have h1 := h y List.mem_cons_self
    have h3 := fun z hz => h z (List.mem_cons_of_mem _ hz)
    have h2 := sumL_nonneg l h3
    simp only [sumL]
    rcases List.mem_cons.1 hx with rfl | hx
    · omega
    · have := ih h3 x hx; omega
theorem sumL_le (l : List Int) (b : Int) : (∀ x ∈ l, x ≤ b) → sumL l ≤ b * (l.length : Int) := by
  induction l with
  | nil => intro _; simp [sumL]
  | cons y l ih =>
    intro h
    have h1 := h y List.mem_cons_self
    have h2 := ih (fun z hz => h z (List.mem_cons_of_mem _ hz))
    have e : b * ((y :: l).length : Int) = b * (l.length : Int) + b := by
      rw [List.length_cons, show ((l.length + 1 : Nat) : Int) = (l.length : Int) + 1 by omega, Int.mul_add, Int.mul_one]
    rw [e]
    simp only [sumL]; omega
theorem rd_setn (l : List Int) (i j : Nat) (v : Int) (hi : i < l.length) : rd (l.set i v) (j : Int) = if i = j then v else rd l (j : Int) := by
  by_cases h : i = j
  · subst h
    rw [if_pos rfl]
    have := rd_set_same (xs := l) (s := (i : Int)) (v := v) (by omega) (by omega)
    rwa [Int.toNat_natCast] at this
  · rw [if_neg h]
    have := rd_set_ne (xs := l) (s := (i : Int)) (t := (j : Int)) (v := v) (by omega) (by omega) (by omega)
    rwa [Int.toNat_natCast] at this
theorem mem_rd {l : List Int} {x : Int} (h : x ∈ l) : ∃ j : Nat, j < l.length ∧ rd l (j : Int) = x := by
  obtain ⟨j, hj, e⟩ := List.getElem_of_mem h
  exact ⟨j, hj, by rw [rd_get hj, e]⟩
theorem all_rd {l : List Int} {P : Int → Prop} (h : ∀ j : Nat, j < l.length → P (rd l (j : Int))) : ∀ x ∈ l, P x := by
  intro x hx
  obtain ⟨j, hj, e⟩ := mem_rd hx
  rw [← e]; exact h j hj

/-! within -/
theorem within_eq (a b c : Int) : impl_within.f a b c = some (decide (b ≤ a ∧ a ≤ c)) := by
  unfold impl_within.f
  by_cases h : b ≤ a
  · simp [h, ge_iff_le]
  · simp [h, ge_iff_le]

/-! areIn -/
theorem areIn_l0 (lo hi : Int) (xs : List Int) (hn : xs.length ≤ 1099511627776) : ∀ d n, n + d = xs.length → Ev (fun k => impl_areIn.l0 k lo hi xs (xs.length : Int) (n : Int)) (inAll lo hi (xs.drop n)) := by
  intro d
  induction d with
  | zero =>
    intro n h
    apply Ev.succ
    have h1 : ¬ ((n : Int) < (xs.length : Int)) := by omega
    have h2 : xs.drop n = [] := List.drop_eq_nil_of_le (by omega)
    simp only [impl_areIn.l0, h1, if_false, h2]
    exact Ev.now true
  | succ d ih =>
    intro n h
    apply Ev.succ
    have h1 : (n : Int) < (xs.length : Int) := by omega
    have h2 : (0 : Int) ≤ (n : Int) := by omega
    have h3 := ih (n + 1) (by omega)
    rw [drop_rd (show n < xs.length by omega), inAll_cons]
    simp only [impl_areIn.l0, h1, h2, if_true, within_eq, Option.bind_some, w64_succ (show n < 9223372036854775807 by omega)]
    by_cases hc : lo ≤ rd xs (n : Int) ∧ rd xs (n : Int) ≤ hi
    · simp only [hc, decide_true, if_true, Bool.true_and, and_self]; exact h3
    · simp only [hc, decide_false, Bool.false_and, Bool.false_eq_true, if_false]; exact Ev.now false
theorem areIn_ev (lo hi : Int) (xs : List Int) (hn : xs.length ≤ 1099511627776) : Ev (fun k => impl_areIn.f k xs lo hi) (inAll lo hi xs) := by
  have h := areIn_l0 lo hi xs hn xs.length 0 (by omega)
  exact h

/-! areNeeds -/
theorem areStations_eq (n : Int) : impl_areStations.f n = some (decide (1 ≤ n ∧ n ≤ 12)) := by
  unfold impl_areStations.f
  rw [within_eq]; rfl
theorem areNeeds_ev (xs : List Int) (hn : xs.length ≤ 1099511627776) : Ev (fun k => impl_areNeeds.f k xs) (inAll 0 1000 xs && decide (1 ≤ (xs.length : Int) ∧ (xs.length : Int) ≤ 12)) := by
  unfold impl_areNeeds.f
  simp only [areStations_eq, Option.bind_some]
  by_cases h : 1 ≤ (xs.length : Int) ∧ (xs.length : Int) ≤ 12
  · simp only [h, and_self, decide_true, if_true, Bool.and_true]
    exact Ev.bind (areIn_ev 0 1000 xs hn) (Ev.now _)
  · simp only [h, decide_false, Bool.false_eq_true, if_false, Bool.and_false]
    exact Ev.now _

/-! TokenI -/
/-- A station's turn. -/
def tkN (h : Int) (l : List Int) (i : Nat) : Int := min (rd l (i : Int)) h
def tkLeft (h : Int) (l : List Int) (i : Nat) : List Int := l.set i (rd l (i : Int) - tkN h l i)
def tkOut (h t : Int) (l o : List Int) (i : Nat) : List Int := if tkN h l i > 0 then o.set i (t + tkN h l i) else o
/-- What holds of needs that are left. -/
structure TkOK (N : Nat) (l o : List Int) (t : Int) : Prop where
  ll : l.length = N
  lo : o.length = N
  hl : ∀ j : Nat, j < N → 0 ≤ rd l (j : Int) ∧ rd l (j : Int) ≤ 1000
  ht : 0 ≤ t
theorem tkN_in {h : Int} (hh : 1 ≤ h) {N : Nat} {l o : List Int} {t : Int} (H : TkOK N l o t) {i : Nat} (hi : i < N) :
    0 ≤ tkN h l i ∧ tkN h l i ≤ rd l (i : Int) ∧ tkN h l i ≤ 1000 ∧ (rd l (i : Int) > 0 → tkN h l i > 0) := by
  have := H.hl i hi
  unfold tkN
  omega
theorem tkOK_step {h w : Int} (hh : 1 ≤ h) (hw : 0 ≤ w) {N : Nat} {l o : List Int} {t : Int} (H : TkOK N l o t) {i : Nat} (hi : i < N) :
    TkOK N (tkLeft h l i) (tkOut h t l o i) (t + tkN h l i + w) := by
  have hn := tkN_in hh H hi
  have hl := H.hl
  have hr := hl i hi
  refine ⟨?_, ?_, ?_, ?_⟩
  · unfold tkLeft; rw [List.length_set]; exact H.ll
  · unfold tkOut; split
    · rw [List.length_set]; exact H.lo
    · exact H.lo
  · intro j hj
    unfold tkLeft
    rw [rd_setn _ _ _ _ (by rw [H.ll]; exact hi)]
    have := hl j hj
    split
    · omega
    · exact this
  · have := H.ht; omega
theorem tkSum {h : Int} {N : Nat} {l o : List Int} {t : Int} (H : TkOK N l o t) {i : Nat} (hi : i < N) : sumL (tkLeft h l i) = sumL l - tkN h l i := by
  unfold tkLeft
  rw [sumL_set _ _ _ (by rw [H.ll]; exact hi)]; omega
theorem tk_step {h w : Int} (hh : 1 ≤ h ∧ h ≤ 1000) (hw : 0 ≤ w ∧ w ≤ 1000) {N : Nat} (hN : N ≤ 12) {l o : List Int} {t : Int} (H : TkOK N l o t) (ht : t ≤ 1000000000) {i : Nat} (hi : i < N) {r : List Int × Int × Bool}
    (g : Ev (fun k => impl_TokenRounds.l1 k h w (tkLeft h l i) (tkOut h t l o i) (t + tkN h l i + w) (N : Int) ((i + 1 : Nat) : Int)) r) :
    Ev (fun k => impl_TokenRounds.l1 k h w l o t (N : Int) (i : Int)) r := by
  have hn := tkN_in hh.1 H hi
  have h0 := H.ht
  have hr := H.hl i hi
  have c1 : (i : Int) < (N : Int) := Int.ofNat_lt.2 hi
  have c2 : (0 : Int) ≤ (i : Int) := Int.natCast_nonneg _
  have c3 : (i : Int) < (l.length : Int) := by rw [H.ll]; exact c1
  have c4 : (i : Int) < (o.length : Int) := by rw [H.lo]; exact c1
  have hws := w64_succ (show i < 9223372036854775807 by omega)
  have e1 : wrap64 (rd l (i : Int) - tkN h l i) = rd l (i : Int) - tkN h l i := w64 (by omega) (by omega)
  have e2 : wrap64 (t + tkN h l i) = t + tkN h l i := w64 (by omega) (by omega)
  have e3 : wrap64 (t + tkN h l i + w) = t + tkN h l i + w := w64 (by omega) (by omega)
  have em : mn (rd l (i : Int)) h = tkN h l i := mn_eq _ _
  apply Ev.succ
  simp only [impl_TokenRounds.l1, em, e1, e2, e3, hws, Int.toNat_natCast]
  refine Ev.cond (fun _ => ?_) (fun h' => absurd c1 h')
  refine Ev.cond (fun _ => ?_) (fun h' => absurd c2 h')
  refine Ev.cond (fun _ => ?_) (fun h' => absurd c3 h')
  refine Ev.bind (Ev.now _) ?_
  unfold tkOut tkLeft at g
  by_cases hp : tkN h l i > 0
  · rw [if_pos hp] at g
    refine Ev.cond (fun _ => ?_) (fun h' => absurd hp h')
    exact Ev.cond (fun _ => g) (fun h' => absurd c4 h')
  · rw [if_neg hp] at g
    exact Ev.cond (fun h' => absurd h' hp) (fun _ => g)
/-- A round: what each turn keeps, holds behind it. -/
theorem tk_round {h w : Int} (hh : 1 ≤ h ∧ h ≤ 1000) (hw : 0 ≤ w ∧ w ≤ 1000) {N : Nat} (hN : N ≤ 12) (P : List Int → List Int → Int → Nat → Prop)
    (hP : ∀ l o t i, i < N → TkOK N l o t → t ≤ 1000000000 → P l o t i → P (tkLeft h l i) (tkOut h t l o i) (t + tkN h l i + w) (i + 1)) :
    ∀ (d i : Nat) (l o : List Int) (t : Int), i + d = N → TkOK N l o t → P l o t i → t + sumL l + 1000 * (d : Int) ≤ 900000000 →
      ∃ l' o' t', TkOK N l' o' t' ∧ P l' o' t' N ∧ t' + sumL l' ≤ t + sumL l + 1000 * (d : Int) ∧ sumL l' ≤ sumL l ∧ (∀ j, i ≤ j → j < N → rd l (j : Int) > 0 → sumL l' < sumL l) ∧
        ∀ r, Ev (fun k => impl_TokenRounds.l0 k h w l' o' t') r → Ev (fun k => impl_TokenRounds.l1 k h w l o t (N : Int) (i : Int)) r := by
  intro d
  induction d with
  | zero =>
    intro i l o t hi H hp ht
    obtain rfl : i = N := by omega
    refine ⟨l, o, t, H, hp, by omega, Int.le_refl _, fun j h1 h2 => absurd h2 (by omega), fun r hr => ?_⟩
    have c1 : ¬ (i : Int) < (i : Int) := Int.lt_irrefl _
    apply Ev.succ
    simp only [impl_TokenRounds.l1]
    exact Ev.cond (fun h' => absurd h' c1) (fun _ => hr)
  | succ d ih =>
    intro i l o t hi H hp ht
    have hi' : i < N := by omega
    have hn := tkN_in hh.1 H hi'
    have hs := tkSum (h := h) H hi'
    have h0 : 0 ≤ sumL l := sumL_nonneg _ (all_rd (fun j hj => (H.hl j (by rw [← H.ll]; exact hj)).1))
    have ht0 := H.ht
    have ht2 : t ≤ 1000000000 := by omega
    obtain ⟨l', o', t', g1, g2, g3, g4, g5, g6⟩ := ih (i + 1) _ _ _ (by omega) (tkOK_step hh.1 hw.1 H hi') (hP l o t i hi' H ht2 hp) (by rw [hs]; omega)
    rw [hs] at g3 g4 g5
    refine ⟨l', o', t', g1, g2, by omega, by omega, fun j h1 h2 h3 => ?_, fun r hr => tk_step hh hw hN H ht2 hi' (g6 r hr)⟩
    by_cases hj : j = i
    · subst hj
      have := hn.2.2.2 h3
      omega
    · have h4 : rd (tkLeft h l i) (j : Int) = rd l (j : Int) := by
        unfold tkLeft
        rw [rd_setn _ _ _ _ (by rw [H.ll]; exact hi'), if_neg (fun e => hj e.symm)]
      have := g5 j (by omega) h2 (by rw [h4]; exact h3)
      omega
/-- All rounds. -/
theorem tk_all {h w : Int} (hh : 1 ≤ h ∧ h ≤ 1000) (hw : 0 ≤ w ∧ w ≤ 1000) {N : Nat} (hN : 1 ≤ N ∧ N ≤ 12) (P : List Int → List Int → Int → Nat → Prop)
    (hP : ∀ l o t i, i < N → TkOK N l o t → t ≤ 1000000000 → P l o t i → P (tkLeft h l i) (tkOut h t l o i) (t + tkN h l i + w) (i + 1))
    (hR : ∀ l o t, P l o t N → P l o t 0) :
    ∀ (s : Nat) (l o : List Int) (t : Int), sumL l ≤ (s : Int) → TkOK N l o t → P l o t 0 → t + 13000 * sumL l ≤ 200000000 →
      ∃ l' o' t', TkOK N l' o' t' ∧ P l' o' t' 0 ∧ (∀ j : Nat, j < N → rd l' (j : Int) = 0) ∧ Ev (fun k => impl_TokenRounds.l0 k h w l o t) (o', maxL o', true) := by
  intro s
  induction s with
  | zero =>
    intro l o t hs H hp ht
    have hz : ∀ j : Nat, j < N → rd l (j : Int) = 0 := by
      intro j hj
      have h1 := sumL_ge l (all_rd (fun j hj => (H.hl j (by rw [← H.ll]; exact hj)).1)) _ (rd_mem (n := j) (by rw [H.ll]; exact hj))
      have h2 := H.hl j hj
      omega
    refine ⟨l, o, t, H, hp, hz, ?_⟩
    have hm : ¬ maxL l > 0 := by
      obtain ⟨j, hj, e⟩ := mem_rd (maxL_mem (l := l) (by rw [H.ll]; omega))
      rw [← e, hz j (by rw [← H.ll]; exact hj)]; decide
    apply Ev.succ
    simp only [impl_TokenRounds.l0]
    refine Ev.bind (Max_ev l (by rw [H.ll]; omega) (by rw [H.ll]; omega)) ?_
    refine Ev.cond (fun h' => absurd h' hm) (fun _ => ?_)
    exact Ev.bind (Max_ev o (by rw [H.lo]; omega) (by rw [H.lo]; omega)) (Ev.now _)
  | succ s ih =>
    intro l o t hs H hp ht
    have hnn : ∀ x ∈ l, 0 ≤ x := all_rd (fun j hj => (H.hl j (by rw [← H.ll]; exact hj)).1)
    have hs0 := sumL_nonneg l hnn
    by_cases hm : maxL l > 0
    · obtain ⟨j, hj, e⟩ := mem_rd (maxL_mem (l := l) (by rw [H.ll]; omega))
      have hsb : sumL l ≤ 1000 * (l.length : Int) := sumL_le l 1000 (all_rd (fun j hj => (H.hl j (by rw [← H.ll]; exact hj)).2))
      have hll := H.ll
      obtain ⟨l', o', t', g1, g2, g3, g4, g5, g6⟩ := tk_round hh hw hN.2 P hP N 0 l o t (by omega) H hp (by omega)
      have hlt := g5 j (by omega) (by rw [← H.ll]; exact hj) (by rw [e]; exact hm)
      obtain ⟨l2, o2, t2, k1, k2, k3, k4⟩ := ih l' o' t' (by omega) g1 (hR _ _ _ g2) (by omega)
      refine ⟨l2, o2, t2, k1, k2, k3, ?_⟩
      apply Ev.succ
      simp only [impl_TokenRounds.l0]
      refine Ev.bind (Max_ev l (by rw [H.ll]; omega) (by rw [H.ll]; omega)) ?_
      refine Ev.cond (fun _ => ?_) (fun h' => absurd hm h')
      rw [hll]
      exact g6 _ k4
    · have hz : ∀ j : Nat, j < N → rd l (j : Int) = 0 := by
        intro j hj
        have h1 := maxL_ge (rd_mem (xs := l) (n := j) (by rw [H.ll]; exact hj))
        have h2 := H.hl j hj
        omega
      refine ⟨l, o, t, H, hp, hz, ?_⟩
      apply Ev.succ
      simp only [impl_TokenRounds.l0]
      refine Ev.bind (Max_ev l (by rw [H.ll]; omega) (by rw [H.ll]; omega)) ?_
      refine Ev.cond (fun h' => absurd h' hm) (fun _ => ?_)
      exact Ev.bind (Max_ev o (by rw [H.lo]; omega) (by rw [H.lo]; omega)) (Ev.now _)

/-! l00In -/
theorem l00In_eq (a b c : Int) : spec_l00In.f a b c = some (decide (b ≤ a ∧ a ≤ c)) := by
  unfold spec_l00In.f
  by_cases h : b ≤ a
  · simp [h, ge_iff_le]
  · simp [h, ge_iff_le]

/-! l09Needs -/
theorem l09Many_eq (n : Int) : spec_l09Many.f n = some (decide (1 ≤ n ∧ n ≤ 12)) := by
  unfold spec_l09Many.f
  rw [l00In_eq]; rfl
theorem l09Needs_l0 (xs : List Int) (hn : xs.length ≤ 1099511627776) : ∀ d n, n + d = xs.length → Ev (fun k => spec_l09Needs.l0 k xs (n : Int)) (inAll 0 1000 (xs.drop n) && decide (1 ≤ (xs.length : Int) ∧ (xs.length : Int) ≤ 12)) := by
  intro d
  induction d with
  | zero =>
    intro n h
    apply Ev.succ
    have h1 : ¬ ((n : Int) < (xs.length : Int)) := by omega
    have h2 : xs.drop n = [] := List.drop_eq_nil_of_le (by omega)
    simp only [spec_l09Needs.l0, h1, if_false, h2, l09Many_eq, Option.bind_some]
    exact Ev.now _
  | succ d ih =>
    intro n h
    apply Ev.succ
    have h1 : (n : Int) < (xs.length : Int) := by omega
    have h2 : (0 : Int) ≤ (n : Int) := by omega
    have h3 := ih (n + 1) (by omega)
    rw [drop_rd (show n < xs.length by omega), inAll_cons]
    simp only [spec_l09Needs.l0, h1, h2, if_true, l00In_eq, Option.bind_some, w64_succ (show n < 9223372036854775807 by omega)]
    by_cases hc : 0 ≤ rd xs (n : Int) ∧ rd xs (n : Int) ≤ 1000
    · simp only [hc, decide_true, if_true, Bool.true_and, and_self]; exact h3
    · simp only [hc, decide_false, Bool.false_and, Bool.false_eq_true, if_false]; exact Ev.now false
theorem l09Needs_ev (xs : List Int) (hn : xs.length ≤ 1099511627776) : Ev (fun k => spec_l09Needs.f k xs) (inAll 0 1000 xs && decide (1 ≤ (xs.length : Int) ∧ (xs.length : Int) ≤ 12)) := by
  have h := l09Needs_l0 xs hn xs.length 0 (by omega)
  exact h

/-! l00Min -/
theorem l00Min_eq (a b : Int) : spec_l00Min.f a b = some (min a b) := by
  unfold spec_l00Min.f
  by_cases h : a < b
  · rw [if_pos h]; congr 1; omega
  · rw [if_neg h]; congr 1; omega

/-! toInt64S -/
theorem toInt64S_l0 (xs : List Int) (hn : xs.length ≤ 1099511627776) : ∀ d n, n + d = xs.length → Ev (fun k => laws_toInt64S.l0 k xs (xs.take n ++ List.replicate d 0) (n : Int)) xs := by
  intro d
  induction d with
  | zero =>
    intro n h
    apply Ev.succ
    have h1 : ¬ ((n : Int) < (xs.length : Int)) := by omega
    have h2 : xs.take n = xs := List.take_of_length_le (by omega)
    simp only [laws_toInt64S.l0, h1, if_false, h2, List.replicate_zero, List.append_nil]
    exact Ev.now _
  | succ d ih =>
    intro n h
    apply Ev.succ
    have h1 : (n : Int) < (xs.length : Int) := by omega
    have h2 : (0 : Int) ≤ (n : Int) := by omega
    have h3 := ih (n + 1) (by omega)
    have h4 : (n : Int) < ((xs.take n ++ List.replicate (d + 1) (0 : Int)).length : Int) := by
      simp only [List.length_append, List.length_take, List.length_replicate]; omega
    have h5 : (xs.take n ++ List.replicate (d + 1) (0 : Int)).set n (rd xs (n : Int)) = xs.take (n + 1) ++ List.replicate d 0 := by
      rw [List.replicate_succ, set_mid _ _ _ _ _ (by rw [List.length_take]; omega), take_rd (show n < xs.length by omega)]
      simp
    simp only [laws_toInt64S.l0, h1, h2, h4, if_true, Int.toNat_natCast, h5, w64_succ (show n < 9223372036854775807 by omega)]
    exact h3
theorem toInt64S_ev (xs : List Int) (hn : xs.length ≤ 1099511627776) : Ev (fun k => laws_toInt64S.f k xs) xs := by
  unfold laws_toInt64S.f
  have h1 : (0 : Int) ≤ (xs.length : Int) := by omega
  have h2 : xs.length ≤ 35184372088832 := by omega
  simp only [h1, if_true, Int.toNat_natCast, h2]
  have h := toInt64S_l0 xs hn xs.length 0 (by omega)
  exact h

/-! eqInt64S -/
theorem eqInt64S_l0 (xs ys : List Int) (hl : xs.length = ys.length) (hn : xs.length ≤ 1099511627776) : ∀ d n, n + d = xs.length → Ev (fun k => laws_eqInt64S.l0 k xs ys (n : Int)) (decide (xs.drop n = ys.drop n)) := by
  intro d
  induction d with
  | zero =>
    intro n h
    apply Ev.succ
    have h1 : ¬ ((n : Int) < (xs.length : Int)) := by omega
    have h2 : xs.drop n = [] := List.drop_eq_nil_of_le (by omega)
    have h3 : ys.drop n = [] := List.drop_eq_nil_of_le (by omega)
    simp only [laws_eqInt64S.l0, h1, if_false, h2, h3, decide_true]
    exact Ev.now true
  | succ d ih =>
    intro n h
    apply Ev.succ
    have h1 : (n : Int) < (xs.length : Int) := by omega
    have h1' : (n : Int) < (ys.length : Int) := by omega
    have h2 : (0 : Int) ≤ (n : Int) := by omega
    have h3 := ih (n + 1) (by omega)
    rw [drop_rd (show n < xs.length by omega), drop_rd (show n < ys.length by omega)]
    simp only [laws_eqInt64S.l0, h1, h1', h2, if_true, w64_succ (show n < 9223372036854775807 by omega), List.cons.injEq]
    by_cases hc : rd xs (n : Int) = rd ys (n : Int)
    · simp only [hc, if_true, true_and]; exact h3
    · simp only [hc, if_false, false_and, decide_false]; exact Ev.now false
theorem eqInt64S_ev (xs ys : List Int) (hn : xs.length ≤ 1099511627776) : Ev (fun k => laws_eqInt64S.f k xs ys) (decide (xs = ys)) := by
  unfold laws_eqInt64S.f
  by_cases hl : xs.length = ys.length
  · have h1 : (xs.length : Int) = (ys.length : Int) := by omega
    simp only [h1, if_true]
    have h := eqInt64S_l0 xs ys hl hn xs.length 0 (by omega)
    exact h
  · have h1 : ¬ (xs.length : Int) = (ys.length : Int) := by omega
    have h2 : ¬ xs = ys := fun h => hl (by rw [h])
    simp only [h1, if_false, h2, decide_false]
    exact Ev.now false
theorem eqInt64S_same (xs : List Int) (hn : xs.length ≤ 1099511627776) : Ev (fun k => laws_eqInt64S.f k xs xs) true := by
  have h := eqInt64S_ev xs xs hn
  rw [decide_eq_true rfl] at h
  exact h

/-! markInt64S -/
theorem markInt64S_l0 (m : Int) (hm : 0 ≤ m) (hm2 : m ≤ 4611686018427387904) : ∀ (d : Nat) (ws xs : List Int) (n : Nat), ws.length = n → xs.length = d → n + d ≤ 1099511627776 → Ev (fun k => laws_markInt64S.l0 k (ws ++ xs) (m + n) (n : Int)) (m + n + d, ws ++ upFrom (m + n) d) := by
  intro d
  induction d with
  | zero =>
    intro ws xs n h hx hn
    apply Ev.succ
    obtain rfl : xs = [] := List.eq_nil_of_length_eq_zero hx
    have h1 : ¬ ((n : Int) < ((ws ++ ([] : List Int)).length : Int)) := by simp; omega
    simp only [laws_markInt64S.l0, h1, if_false, upFrom]
    exact Ev.of (fun _ => LeO.refl _) (k := 0) (by simp)
  | succ d ih =>
    intro ws xs n h hx hn
    apply Ev.succ
    obtain ⟨x, xs, rfl⟩ : ∃ x ys, xs = x :: ys := by
      cases xs with
      | nil => simp at hx
      | cons x ys => exact ⟨x, ys, rfl⟩
    have h1 : ((n : Int) < ((ws ++ x :: xs).length : Int)) := by simp; omega
    have h2 : (0 : Int) ≤ (n : Int) := by omega
    have h3 := ih (ws ++ [m + n]) xs (n + 1) (by simp [h]) (by simpa using hx) (by omega)
    have h5 : wrap64 (m + n + 1) = m + ((n + 1 : Nat) : Int) := by rw [w64 (by omega) (by omega)]; omega
    simp only [laws_markInt64S.l0, h1, h2, if_true, Int.toNat_natCast, set_mid _ _ _ _ _ h, h5, w64_succ (show n < 9223372036854775807 by omega)]
    have e1 : ws ++ [m + (n : Int)] ++ xs = ws ++ (m + n) :: xs := by simp
    have e2 : ws ++ [m + (n : Int)] ++ upFrom (m + ((n + 1 : Nat) : Int)) d = ws ++ upFrom (m + n) (d + 1) := by
      rw [upFrom, List.append_assoc]
      have e3 : m + ((n + 1 : Nat) : Int) = m + n + 1 := by omega
      rw [e3]; rfl
    have e4 : m + ((n + 1 : Nat) : Int) + (d : Int) = m + n + ((d + 1 : Nat) : Int) := by omega
    rw [e1, e2, e4] at h3
    exact h3
theorem markInt64S_ev (xs : List Int) (m : Int) (hm : 0 ≤ m) (hm2 : m ≤ 4611686018427387904) (hn : xs.length ≤ 1099511627776) : Ev (fun k => laws_markInt64S.f k xs m) (m + (xs.length : Int), upFrom m xs.length) := by
  have h := markInt64S_l0 m hm hm2 xs.length [] xs 0 rfl rfl (by omega)
  have e : m + ((0 : Nat) : Int) = m := by omega
  rw [e] at h
  exact h

/-! heldInt64S -/
theorem heldInt64S_l0 (m : Int) (hm : 0 ≤ m) (hm2 : m ≤ 4611686018427387904) : ∀ (d : Nat) (ws : List Int) (n : Nat), ws.length = n → n + d ≤ 1099511627776 → Ev (fun k => laws_heldInt64S.l0 k (ws ++ upFrom (m + n) d) (m + n) (n : Int)) (m + n + d) := by
  intro d
  induction d with
  | zero =>
    intro ws n h hn
    apply Ev.succ
    have h1 : ¬ ((n : Int) < ((ws ++ upFrom (m + n) 0).length : Int)) := by simp [upFrom]; omega
    simp only [laws_heldInt64S.l0, h1, if_false]
    exact Ev.of (fun _ => LeO.refl _) (k := 0) (by simp)
  | succ d ih =>
    intro ws n h hn
    apply Ev.succ
    have h1 : ((n : Int) < ((ws ++ upFrom (m + n) (d + 1)).length : Int)) := by simp [upFrom_length]; omega
    have h2 : (0 : Int) ≤ (n : Int) := by omega
    have h3 := ih (ws ++ [m + n]) (n + 1) (by simp [h]) (by omega)
    have h5 : wrap64 (m + n + 1) = m + ((n + 1 : Nat) : Int) := by rw [w64 (by omega) (by omega)]; omega
    have h6 : rd (ws ++ upFrom (m + n) (d + 1)) (n : Int) = m + n := by
      rw [rd_nat, List.getD_eq_getElem?_getD, List.getElem?_append_right (by omega), h, Nat.sub_self]; rfl
    simp only [laws_heldInt64S.l0, h1, h2, if_true, h5, h6, w64_succ (show n < 9223372036854775807 by omega)]
    have e2 : ws ++ [m + (n : Int)] ++ upFrom (m + ((n + 1 : Nat) : Int)) d = ws ++ upFrom (m + n) (d + 1) := by
      rw [upFrom, List.append_assoc]
      have e3 : m + ((n + 1 : Nat) : Int) = m + n + 1 := by omega
      rw [e3]; rfl
    have e4 : m + ((n + 1 : Nat) : Int) + (d : Int) = m + n + ((d + 1 : Nat) : Int) := by omega
    rw [e2, e4] at h3
    exact h3
theorem heldInt64S_ev (m : Int) (l : Nat) (hm : 0 ≤ m) (hm2 : m ≤ 4611686018427387904) (hn : l ≤ 1099511627776) : Ev (fun k => laws_heldInt64S.f k (upFrom m l) m) (m + (l : Int)) := by
  have h := heldInt64S_l0 m hm hm2 l [] 0 rfl (by omega)
  have e : m + ((0 : Nat) : Int) = m := by omega
  rw [e] at h
  exact h

def TkP (xs : List Int) (h w : Int) (N : Nat) (l o : List Int) (t : Int) (i : Nat) : Prop :=
  ∃ (oS : List Int) (last t' : Int) (i' : Nat), (sumL l > 0 → t' = t ∧ i' = i % N) ∧
    (∀ r, Ev (fun k => spec_TokenRounds.l1 k xs h w l oS (sumL l) t' last (i' : Int)) r → Ev (fun k => spec_TokenRounds.l1 k xs h w xs (List.replicate N 0) (sumL xs) 0 0 0) r) ∧
    oS.length = N ∧ (∀ j : Nat, j < N → rd l (j : Int) = 0 → rd o (j : Int) = rd oS (j : Int)) ∧ (∀ j : Nat, j < N → 0 ≤ rd oS (j : Int) ∧ rd oS (j : Int) ≤ last) ∧
    (last = 0 ∨ ∃ j : Nat, j < N ∧ rd oS (j : Int) = last) ∧ 0 ≤ last ∧ last ≤ t
theorem set_same {l : List Int} {i : Nat} (hi : i < l.length) : l.set i (rd l (i : Int)) = l := by
  rw [rd_get hi, List.set_getElem_self]
theorem tmod_next {i N : Nat} (hi : i < N) (hN : N ≤ 12) : Int.tmod (wrap64 ((i : Int) + 1)) (N : Int) = (((i + 1) % N : Nat) : Int) := by
  rw [w64_succ (show i < 9223372036854775807 by omega), Int.tmod_eq_emod_of_nonneg (by omega)]
  rfl
theorem TkP_step {xs : List Int} {h w : Int} (hh : 1 ≤ h ∧ h ≤ 1000) (hw : 0 ≤ w ∧ w ≤ 1000) {N : Nat} (hN : 1 ≤ N ∧ N ≤ 12) (hx : xs.length = N) (l o : List Int) (t : Int) (i : Nat) (hi : i < N) (H : TkOK N l o t) (ht : t ≤ 1000000000)
    (g : TkP xs h w N l o t i) : TkP xs h w N (tkLeft h l i) (tkOut h t l o i) (t + tkN h l i + w) (i + 1) := by
  obtain ⟨oS, last, t', i', a1, a2, a3, a4, a5, a6, a7, a8⟩ := g
  have hn := tkN_in hh.1 H hi
  have hs := tkSum (h := h) H hi
  have hnn : ∀ x ∈ l, 0 ≤ x := all_rd (fun j hj => (H.hl j (by rw [← H.ll]; exact hj)).1)
  have hs0 := sumL_nonneg l hnn
  have hsb : sumL l ≤ 1000 * (l.length : Int) := sumL_le l 1000 (all_rd (fun j hj => (H.hl j (by rw [← H.ll]; exact hj)).2))
  have hil : i < l.length := by rw [H.ll]; exact hi
  have hio : i < o.length := by rw [H.lo]; exact hi
  have hiS : i < oS.length := by rw [a3]; exact hi
  have ht0 := H.ht
  have hri := H.hl i hi
  by_cases hp : sumL l > 0
  · obtain ⟨rfl, rfl⟩ := a1 hp
    have hmod : i % N = i := Nat.mod_eq_of_lt hi
    rw [hmod] at a2
    have hge : tkN h l i ≤ sumL l := Int.le_trans hn.2.1 (sumL_ge l hnn _ (rd_mem hil))
    have c2 : (0 : Int) ≤ (i : Int) := Int.natCast_nonneg _
    have c3 : (i : Int) < (l.length : Int) := Int.ofNat_lt.2 hil
    have c4 : (i : Int) < (oS.length : Int) := Int.ofNat_lt.2 hiS
    have c5 : ¬ (xs.length : Int) = 0 := by rw [hx]; omega
    have em : min h (rd l (i : Int)) = tkN h l i := by unfold tkN; omega
    have e1 : wrap64 (rd l (i : Int) - tkN h l i) = rd l (i : Int) - tkN h l i := w64 (by omega) (by omega)
    have e2 : wrap64 (t' + tkN h l i) = t' + tkN h l i := w64 (by omega) (by omega)
    have e3 : wrap64 (t' + tkN h l i + w) = t' + tkN h l i + w := w64 (by omega) (by omega)
    have hll := H.ll
    have e4 : wrap64 (sumL l - tkN h l i) = sumL (tkLeft h l i) := by rw [hs]; exact w64 (by omega) (by omega)
    have e5 := tmod_next hi hN.2
    rw [← hx] at e5
    have eL : l.set i (rd l (i : Int) - tkN h l i) = tkLeft h l i := rfl
    have eR : rd (tkLeft h l i) (i : Int) = rd l (i : Int) - tkN h l i := by unfold tkLeft; rw [rd_setn _ _ _ _ hil, if_pos rfl]
    have hrest : ∀ j : Nat, j ≠ i → rd (tkLeft h l i) (j : Int) = rd l (j : Int) := by
      intro j hj
      unfold tkLeft; rw [rd_setn _ _ _ _ hil, if_neg (fun e => hj e.symm)]
    by_cases hp2 : tkN h l i > 0
    · have hO : tkOut h t' l o i = o.set i (t' + tkN h l i) := if_pos hp2
      rw [hO]
      by_cases hz : rd (tkLeft h l i) (i : Int) = 0
      · refine ⟨oS.set i (t' + tkN h l i), t' + tkN h l i, t' + tkN h l i + w, (i + 1) % N, fun _ => ⟨rfl, rfl⟩, fun r hr => a2 r ?_, by rw [List.length_set]; exact a3, ?_, ?_, ?_, by omega, by omega⟩
        · apply Ev.succ
          simp only [spec_TokenRounds.l1, l00Min_eq, Option.bind_some, em, e1, e2, e3, e4, e5, Int.toNat_natCast, eL]
          refine Ev.cond (fun _ => ?_) (fun h' => absurd hp h')
          refine Ev.cond (fun _ => ?_) (fun h' => absurd c2 h')
          refine Ev.cond (fun _ => ?_) (fun h' => absurd c3 h')
          refine Ev.cond (fun _ => ?_) (fun h' => absurd hp2 h')
          refine Ev.cond (fun _ => ?_) (fun h' => absurd hz h')
          refine Ev.cond (fun _ => ?_) (fun h' => absurd c4 h')
          refine Ev.cond (fun h' => absurd h' c5) (fun _ => ?_)
          rw [hx]
          exact hr
        · intro j hj hlj
          rw [rd_setn _ _ _ _ hio, rd_setn _ _ _ _ hiS]
          by_cases hji : i = j
          · rw [if_pos hji, if_pos hji]
          · rw [if_neg hji, if_neg hji]
            rw [hrest j (fun e => hji e.symm)] at hlj
            exact a4 j hj hlj
        · intro j hj
          rw [rd_setn _ _ _ _ hiS]
          have := a5 j hj
          by_cases hji : i = j
          · rw [if_pos hji]; omega
          · rw [if_neg hji]; omega
        · refine .inr ⟨i, hi, ?_⟩
          rw [rd_setn _ _ _ _ hiS, if_pos rfl]
      · refine ⟨oS, last, t' + tkN h l i + w, (i + 1) % N, fun _ => ⟨rfl, rfl⟩, fun r hr => a2 r ?_, a3, ?_, a5, a6, a7, by omega⟩
        · apply Ev.succ
          simp only [spec_TokenRounds.l1, l00Min_eq, Option.bind_some, em, e1, e2, e3, e4, e5, Int.toNat_natCast, eL]
          refine Ev.cond (fun _ => ?_) (fun h' => absurd hp h')
          refine Ev.cond (fun _ => ?_) (fun h' => absurd c2 h')
          refine Ev.cond (fun _ => ?_) (fun h' => absurd c3 h')
          refine Ev.cond (fun _ => ?_) (fun h' => absurd hp2 h')
          refine Ev.cond (fun h' => absurd h' hz) (fun _ => ?_)
          refine Ev.cond (fun h' => absurd h' c5) (fun _ => ?_)
          rw [hx]
          exact hr
        · intro j hj hlj
          have hji : ¬ i = j := fun e => hz (by rw [e]; rw [← e] at hlj ⊢; exact hlj)
          rw [rd_setn _ _ _ _ hio, if_neg hji]
          rw [hrest j (fun e => hji e.symm)] at hlj
          exact a4 j hj hlj
    · have hO : tkOut h t' l o i = o := if_neg hp2
      have h0 : tkN h l i = 0 := by omega
      have hL : tkLeft h l i = l := by unfold tkLeft; rw [h0, Int.sub_zero, set_same hil]
      rw [hO]
      refine ⟨oS, last, t' + tkN h l i + w, (i + 1) % N, fun _ => ⟨rfl, rfl⟩, fun r hr => a2 r ?_, a3, by rw [hL]; exact a4, a5, a6, a7, by omega⟩
      apply Ev.succ
      simp only [spec_TokenRounds.l1, l00Min_eq, Option.bind_some, em, e1, e2, e3, e4, e5, Int.toNat_natCast, eL]
      refine Ev.cond (fun _ => ?_) (fun h' => absurd hp h')
      refine Ev.cond (fun _ => ?_) (fun h' => absurd c2 h')
      refine Ev.cond (fun _ => ?_) (fun h' => absurd c3 h')
      refine Ev.cond (fun h' => absurd h' hp2) (fun _ => ?_)
      refine Ev.cond (fun h' => absurd h' c5) (fun _ => ?_)
      rw [hx]
      exact hr
  · have h1 := sumL_ge l hnn _ (rd_mem hil)
    have h0 : tkN h l i = 0 := by omega
    have hO : tkOut h t l o i = o := if_neg (by omega)
    have hL : tkLeft h l i = l := by unfold tkLeft; rw [h0, Int.sub_zero, set_same hil]
    rw [hO, hL]
    exact ⟨oS, last, t', i', fun h' => absurd h' hp, a2, a3, a4, a5, a6, a7, by omega⟩
theorem TS_l0 {xs : List Int} {h w : Int} (oS l : List Int) (hl : xs.length ≤ 12) (hx : ∀ j : Nat, j < xs.length → 0 ≤ rd xs (j : Int) ∧ rd xs (j : Int) ≤ 1000) (r : List Int × Int × Bool) :
    ∀ (d n : Nat) (acc : Int), n + d = xs.length → 0 ≤ acc → acc ≤ 1000 * (n : Int) → Ev (fun k => spec_TokenRounds.l1 k xs h w l oS (acc + sumL (xs.drop n)) 0 0 0) r → Ev (fun k => spec_TokenRounds.l0 k xs h w l oS acc (n : Int)) r := by
  intro d
  induction d with
  | zero =>
    intro n acc hd ha hb g
    have c1 : ¬ (n : Int) < (xs.length : Int) := by omega
    rw [List.drop_eq_nil_of_le (by omega)] at g
    simp only [sumL, Int.add_zero] at g
    apply Ev.succ
    simp only [spec_TokenRounds.l0]
    exact Ev.cond (fun h' => absurd h' c1) (fun _ => g)
  | succ d ih =>
    intro n acc hd ha hb g
    have hn : n < xs.length := by omega
    have c1 : (n : Int) < (xs.length : Int) := by omega
    have c2 : (0 : Int) ≤ (n : Int) := by omega
    have hr := hx n hn
    have e1 : wrap64 (acc + rd xs (n : Int)) = acc + rd xs (n : Int) := w64 (by omega) (by omega)
    rw [drop_rd hn] at g
    simp only [sumL] at g
    rw [← Int.add_assoc] at g
    apply Ev.succ
    simp only [spec_TokenRounds.l0, e1, w64_succ (show n < 9223372036854775807 by omega)]
    refine Ev.cond (fun _ => ?_) (fun h' => absurd c1 h')
    refine Ev.cond (fun _ => ?_) (fun h' => absurd c2 h')
    exact ih (n + 1) _ (by omega) (by omega) (by omega) g
theorem TR_run {xs : List Int} {h w : Int} (hh : 1 ≤ h ∧ h ≤ 1000) (hw : 0 ≤ w ∧ w ≤ 1000) (hN : 1 ≤ xs.length ∧ xs.length ≤ 12) (hx : ∀ j : Nat, j < xs.length → 0 ≤ rd xs (j : Int) ∧ rd xs (j : Int) ≤ 1000) :
    ∃ (o : List Int) (m : Int), o.length = xs.length ∧ Ev (fun k => spec_TokenRounds.l1 k xs h w xs (List.replicate xs.length 0) (sumL xs) 0 0 0) (o, m, true) ∧
      Ev (fun k => impl_TokenRounds.l0 k h w xs (List.replicate xs.length 0) 0) (o, m, true) := by
  have hnn := sumL_nonneg xs (all_rd (fun j hj => (hx j hj).1))
  have hsb : sumL xs ≤ 1000 * (xs.length : Int) := sumL_le xs 1000 (all_rd (fun j hj => (hx j hj).2))
  have hrep : ∀ j : Nat, rd (List.replicate xs.length (0 : Int)) (j : Int) = 0 := by
    intro j
    rw [rd_nat, List.getD_eq_getElem?_getD, List.getElem?_replicate]
    split <;> rfl
  have H : TkOK xs.length xs (List.replicate xs.length 0) 0 := ⟨rfl, List.length_replicate, hx, Int.le_refl _⟩
  have p0 : TkP xs h w xs.length xs (List.replicate xs.length 0) 0 0 := by
    refine ⟨List.replicate xs.length 0, 0, 0, 0, fun _ => ⟨rfl, (Nat.zero_mod _).symm⟩, fun r hr => hr, List.length_replicate, fun _ _ _ => rfl, fun j _ => by rw [hrep]; decide, .inl rfl, Int.le_refl _, Int.le_refl _⟩
  obtain ⟨l', o', t', g1, g2, g3, g4⟩ := tk_all hh hw hN (TkP xs h w xs.length) (fun l o t i hi H ht g => TkP_step hh hw hN rfl l o t i hi H ht g)
    (fun l o t g => by
      obtain ⟨oS, last, t', i', a1, a2⟩ := g
      rw [Nat.mod_self] at a1
      refine ⟨oS, last, t', i', fun h => ?_, a2⟩
      rw [Nat.zero_mod]; exact a1 h)
    (sumL xs).toNat xs (List.replicate xs.length 0) 0 (by omega) H p0 (by omega)
  obtain ⟨oS, last, t2, i2, a1, a2, a3, a4, a5, a6, a7, a8⟩ := g2
  have hs : sumL l' = 0 := by
    have h1 := sumL_nonneg l' (all_rd (fun j hj => (g1.hl j (by rw [← g1.ll]; exact hj)).1))
    have h2 := sumL_le l' 0 (all_rd (fun j hj => by rw [g3 j (by rw [← g1.ll]; exact hj)]; exact Int.le_refl _))
    omega
  have ho : o' = oS := by
    apply List.ext_getElem (by rw [g1.lo, a3])
    intro j h1 h2
    have := a4 j (by rw [← g1.lo]; exact h1) (g3 j (by rw [← g1.lo]; exact h1))
    rwa [rd_get h1, rd_get h2] at this
  have hm : maxL o' = last := by
    have hpos : 0 < o'.length := by rw [g1.lo]; omega
    obtain ⟨j, hj, e⟩ := mem_rd (maxL_mem hpos)
    have hb := a5 j (by rw [← g1.lo]; exact hj)
    rw [ho] at e hj
    rw [e] at hb
    rw [ho]
    rcases a6 with h0 | ⟨i, hi, e2⟩
    · omega
    · have := maxL_ge (rd_mem (xs := oS) (n := i) (by rw [a3]; exact hi))
      omega
  refine ⟨oS, last, a3, a2 _ ?_, ?_⟩
  · rw [hs]
    apply Ev.succ
    simp only [spec_TokenRounds.l1]
    exact Ev.cond (fun h' => absurd h' (by decide)) (fun _ => Ev.now _)
  · rw [← hm, ← ho]; exact g4
theorem TR_none (xs : List Int) (h w : Int) : Ev (fun k => spec_TokenRounds.j0 k xs h w true) (([] : List Int), (0 : Int), false) ∧ Ev (fun k => impl_TokenRounds.j0 k xs h w true) (([] : List Int), (0 : Int), false) := by
  refine ⟨?_, ?_⟩
  · apply Ev.succ
    simp only [spec_TokenRounds.j0]
    exact Ev.cond (fun _ => Ev.now _) (fun h' => absurd (by trivial) h')
  · apply Ev.succ
    simp only [impl_TokenRounds.j0]
    exact Ev.cond (fun _ => Ev.now _) (fun h' => absurd (by trivial) h')
theorem TR_ev (xs : List Int) (h w : Int) (hn : xs.length ≤ 1099511627776) : ∃ r : List Int × Int × Bool, r.1.length ≤ 12 ∧ Ev (fun k => spec_TokenRounds.f k xs h w) r ∧ Ev (fun k => impl_TokenRounds.f k xs h w) r := by
  obtain ⟨n1, n2⟩ := TR_none xs h w
  have s0 := l09Needs_ev xs hn
  have i0 := areNeeds_ev xs hn
  by_cases hb : (inAll 0 1000 xs && decide (1 ≤ (xs.length : Int) ∧ (xs.length : Int) ≤ 12)) = true
  · rw [hb] at s0 i0
    rw [Bool.and_eq_true] at hb
    have hl := of_decide_eq_true hb.2
    have hx : ∀ j : Nat, j < xs.length → 0 ≤ rd xs (j : Int) ∧ rd xs (j : Int) ≤ 1000 := fun j hj => inAll_mem hb.1 _ (rd_mem hj)
    by_cases hh : 1 ≤ h ∧ h ≤ 1000
    · by_cases hw : 0 ≤ w ∧ w ≤ 1000
      · obtain ⟨o, m, ho, g1, g2⟩ := TR_run hh hw (by omega) hx
        have c1 : (0 : Int) ≤ (xs.length : Int) := by omega
        have c2 : xs.length ≤ 35184372088832 := by omega
        refine ⟨(o, m, true), by show o.length ≤ 12; omega, ?_, ?_⟩
        · unfold spec_TokenRounds.f
          refine Ev.bind s0 ?_
          refine Ev.cond (fun _ => ?_) (fun h' => absurd (by trivial) h')
          refine Ev.bind (Ev.const (l00In_eq _ _ _)) ?_
          rw [decide_eq_true hh]
          refine Ev.cond (fun _ => ?_) (fun h' => absurd (by trivial) h')
          refine Ev.bind (Ev.const (l00In_eq _ _ _)) ?_
          rw [decide_eq_true hw]
          apply Ev.succ
          simp only [spec_TokenRounds.j0, Int.toNat_natCast]
          refine Ev.cond (fun h' => absurd h' (by decide)) (fun _ => ?_)
          have e0 : spec_l00Own.f xs = some xs := by
            unfold spec_l00Own.f
            rw [Option.bind_some, List.nil_append, if_pos (by simp; omega)]
          refine Ev.bind (Ev.const e0) ?_
          refine Ev.cond (fun _ => ?_) (fun h' => absurd c1 h')
          refine Ev.cond (fun _ => ?_) (fun h' => absurd c2 h')
          refine TS_l0 _ _ (by omega) hx _ xs.length 0 0 (by omega) (by omega) (by omega) ?_
          rw [List.drop_zero, Int.zero_add]
          exact g1
        · unfold impl_TokenRounds.f
          refine Ev.bind i0 ?_
          refine Ev.cond (fun _ => ?_) (fun h' => absurd (by trivial) h')
          refine Ev.bind (Ev.const (within_eq _ _ _)) ?_
          rw [decide_eq_true hh]
          refine Ev.cond (fun _ => ?_) (fun h' => absurd (by trivial) h')
          refine Ev.bind (Ev.const (within_eq _ _ _)) ?_
          rw [decide_eq_true hw]
          apply Ev.succ
          simp only [impl_TokenRounds.j0, Int.toNat_natCast]
          refine Ev.cond (fun h' => absurd h' (by decide)) (fun _ => ?_)
          have e0 : slices_Clone_int64_int64.f xs = some xs := by
            unfold slices_Clone_int64_int64.f
            rw [if_pos (by omega)]
          refine Ev.bind (Ev.const e0) ?_
          refine Ev.cond (fun _ => ?_) (fun h' => absurd c1 h')
          exact Ev.cond (fun _ => g2) (fun h' => absurd c2 h')
      · refine ⟨(([] : List Int), (0 : Int), false), by decide, ?_, ?_⟩
        rotate_left
        · unfold impl_TokenRounds.f
          refine Ev.bind i0 ?_
          refine Ev.cond (fun _ => ?_) (fun h' => absurd (by trivial) h')
          refine Ev.bind (Ev.const (within_eq _ _ _)) ?_
          rw [decide_eq_true hh]
          refine Ev.cond (fun _ => ?_) (fun h' => absurd (by trivial) h')
          refine Ev.bind (Ev.const (within_eq _ _ _)) ?_
          rw [decide_eq_false hw]
          exact n2
        · unfold spec_TokenRounds.f
          refine Ev.bind s0 ?_
          refine Ev.cond (fun _ => ?_) (fun h' => absurd (by trivial) h')
          refine Ev.bind (Ev.const (l00In_eq _ _ _)) ?_
          rw [decide_eq_true hh]
          refine Ev.cond (fun _ => ?_) (fun h' => absurd (by trivial) h')
          refine Ev.bind (Ev.const (l00In_eq _ _ _)) ?_
          rw [decide_eq_false hw]
          exact n1
    · refine ⟨(([] : List Int), (0 : Int), false), by decide, ?_, ?_⟩
      rotate_left
      · unfold impl_TokenRounds.f
        refine Ev.bind i0 ?_
        refine Ev.cond (fun _ => ?_) (fun h' => absurd (by trivial) h')
        refine Ev.bind (Ev.const (within_eq _ _ _)) ?_
        rw [decide_eq_false hh]
        exact Ev.cond (fun h' => absurd h' (by decide)) (fun _ => n2)
      · unfold spec_TokenRounds.f
        refine Ev.bind s0 ?_
        refine Ev.cond (fun _ => ?_) (fun h' => absurd (by trivial) h')
        refine Ev.bind (Ev.const (l00In_eq _ _ _)) ?_
        rw [decide_eq_false hh]
        exact Ev.cond (fun h' => absurd h' (by decide)) (fun _ => n1)
  · have hb' := eq_false_of_ne_true hb
    rw [hb'] at s0 i0
    refine ⟨(([] : List Int), (0 : Int), false), by decide, ?_, ?_⟩
    rotate_left
    · unfold impl_TokenRounds.f
      refine Ev.bind i0 ?_
      exact Ev.cond (fun h' => absurd h' (by decide)) (fun _ => n2)
    · unfold spec_TokenRounds.f
      refine Ev.bind s0 ?_
      exact Ev.cond (fun h' => absurd h' (by decide)) (fun _ => n1)
theorem FnExactTokenRounds : laws_FnExactTokenRounds.Pure := by
  intro xs h w h0 h1 hx hh hw
  refine Ev.rounds ?_
  unfold laws_FnExactTokenRounds.f
  by_cases hl : (xs.length : Int) > 1048576
  · exact Ev.cond (fun _ => Ev.now _) (fun h' => absurd hl h')
  have hn : xs.length ≤ 1099511627776 := by omega
  obtain ⟨r, hr, hs, hi⟩ := TR_ev xs h w hn
  have hr : r.1.length ≤ 1099511627776 := by omega
  have hneg : ¬ (1 + (xs.length : Int) < 0) := by omega
  have hneg2 : ¬ (1 + (r.1.length : Int) < 0) := by omega
  refine Ev.cond (fun h' => absurd h' hl) (fun _ => ?_)
  refine Ev.bind (toInt64S_ev xs hn) (Ev.bind hs (Ev.bind (toInt64S_ev xs hn) (Ev.bind hi (Ev.bind (eqInt64S_same _ hr) ?_))))
  simp only [if_true, bne_self_eq_false]
  refine Ev.succ ?_
  simp only [laws_FnExactTokenRounds.j0, Bool.false_eq_true, if_false]
  refine Ev.bind (toInt64S_ev xs hn) (Ev.bind (eqInt64S_same _ hn) ?_)
  simp only [if_true]
  refine Ev.bind (markInt64S_ev xs 1 (by omega) (by omega) hn) ?_
  simp only [hneg, if_false]
  refine Ev.bind (eqInt64S_same _ hr) ?_
  simp only [if_true, bne_self_eq_false]
  refine Ev.succ ?_
  simp only [laws_FnExactTokenRounds.j1, Bool.false_eq_true, if_false]
  refine Ev.bind (markInt64S_ev _ 1 (by omega) (by omega) hr) (Ev.bind (heldInt64S_ev 1 _ (by omega) (by omega) hr) ?_)
  simp only [hneg2, if_false, if_true]
  refine Ev.bind (toInt64S_ev xs hn) (Ev.bind hi (Ev.bind (eqInt64S_same _ hr) ?_))
  simp only [if_true, bne_self_eq_false]
  refine Ev.succ ?_
  simp only [laws_FnExactTokenRounds.j2, Bool.false_eq_true, if_false]
  refine Ev.bind (heldInt64S_ev 1 _ (by omega) (by omega) hr) ?_
  simp only [hneg2, if_false, if_true]
  exact Ev.now _

end Go.Proofs.Ytbgiddnffchnpaa.Pure
