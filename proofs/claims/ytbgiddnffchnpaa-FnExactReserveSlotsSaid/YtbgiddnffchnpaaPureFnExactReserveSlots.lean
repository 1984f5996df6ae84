/- For every list of needs and every frame the program's ReserveSlots answers what the reference's does, and hands out memory of its own. -/
import Derived.Test.YtbgiddnffchnpaaQFnExactReserveSlotsx4
import Derived.Test.YtbgiddnffchnpaaBase
namespace Go.Proofs.Ytbgiddnffchnpaa.Pure
open Go.RowKit Go.Proofs.Ytbgiddnffchnpaa.QFnExactReserveSlots Go.Proofs.Ytbgiddnffchnpaa.Base Go.Proofs.YtbgiddnffchnpaaW.PrintWords Go.Proofs.YtbgiddnffchnpaaW.PrintLast Go.Proofs.YtbgiddnffchnpaaW.PrintMore
set_option linter.unusedVariables false
set_option linter.unusedSimpArgs false

/-! mxmn -/
theorem mx_eq (a b : Int) : mx a b = max a b := by unfold mx; split <;> omega
theorem mn_eq (a b : Int) : mn a b = min a b := by unfold mn; split <;> omega

/-! slicesMax -/
def maxR (m : Int) : List Int → Int
  | [] => m
  | x :: r => maxR (max m x) r
def maxL : List Int → Int
  | [] => 0
  | x :: r => maxR x r
theorem maxR_ge (l : List Int) : ∀ m, m ≤ maxR m l := by
  induction l with
  | nil => intro m; exact Int.le_refl _
  | cons x l ih => intro m; have := ih (max m x); simp only [maxR]; omega
theorem maxR_mem_ge (l : List Int) : ∀ m x, x ∈ l → x ≤ maxR m l := by
  induction l with
  | nil => intro m x h; exact absurd h (by simp)
  | cons y l ih =>
    intro m x h
    simp only [maxR]
    rcases List.mem_cons.1 h with rfl | h
    · have := maxR_ge l (max m x); omega
    · exact ih _ _ h
theorem maxR_in (l : List Int) : ∀ m, maxR m l = m ∨ maxR m l ∈ l := by
  induction l with
  | nil => intro m; exact .inl rfl
  | cons y l ih =>
    intro m
    simp only [maxR]
    rcases ih (max m y) with h | h
    · by_cases hm : m < y
      · right; rw [h, show max m y = y by omega]; exact List.mem_cons_self
      · left; rw [h]; omega
    · right; exact List.mem_cons_of_mem _ h
theorem maxL_ge {l : List Int} {x : Int} (h : x ∈ l) : x ≤ maxL l := by
  cases l with
  | nil => exact absurd h (by simp)
  | cons y l =>
    rcases List.mem_cons.1 h with rfl | h
    · exact maxR_ge l x
    · exact maxR_mem_ge l y x h
theorem maxL_mem {l : List Int} (h : 0 < l.length) : maxL l ∈ l := by
  cases l with
  | nil => exact absurd h (by simp)
  | cons y l =>
    rcases maxR_in l y with e | e
    · show maxR y l ∈ y :: l
      rw [e]; exact List.mem_cons_self
    · exact List.mem_cons_of_mem _ e
theorem Max_l0 (xs : List Int) (hx : xs.length ≤ 1099511627776) : ∀ (d n : Nat) (m : Int), n + d = xs.length → Ev (fun k => slices_Max_int64_int64.l0 k xs m (n : Int)) (maxR m (xs.drop n)) := by
  intro d
  induction d with
  | zero =>
    intro n m h
    have c1 : ¬ (n : Int) < (xs.length : Int) := by omega
    rw [List.drop_eq_nil_of_le (by omega)]
    apply Ev.succ
    simp only [slices_Max_int64_int64.l0]
    exact Ev.cond (fun h' => absurd h' c1) (fun _ => Ev.now _)
  | succ d ih =>
    intro n m h
    have c1 : (n : Int) < (xs.length : Int) := by omega
    have c2 : (0 : Int) ≤ (n : Int) := by omega
    have h3 := ih (n + 1) (max m (rd xs (n : Int))) (by omega)
    rw [drop_rd (show n < xs.length by omega)]
    apply Ev.succ
    simp only [slices_Max_int64_int64.l0, mx_eq, w64_succ (show n < 9223372036854775807 by omega)]
    refine Ev.cond (fun _ => ?_) (fun h' => absurd c1 h')
    exact Ev.cond (fun _ => h3) (fun h' => absurd c2 h')
theorem Max_ev (xs : List Int) (h0 : 0 < xs.length) (hx : xs.length ≤ 1099511627776) : Ev (fun k => slices_Max_int64_int64.f k xs) (maxL xs) := by
  cases xs with
  | nil => exact absurd h0 (by simp)
  | cons y l =>
    unfold slices_Max_int64_int64.f
    have c1 : ¬ ((y :: l).length : Int) < 1 := by simp only [List.length_cons]; omega
    have c2 : 0 < ((y :: l).length : Int) := by simp only [List.length_cons]; omega
    refine Ev.cond (fun h' => absurd h' c1) (fun _ => ?_)
    refine Ev.cond (fun _ => ?_) (fun h' => absurd c2 h')
    have h := Max_l0 (y :: l) hx l.length 1 y (by simp only [List.length_cons]; omega)
    exact h

/-! rdset -/
theorem rd_set_same {xs : List Int} {s v : Int} (h0 : 0 ≤ s) (h : s < (xs.length : Int)) : rd (xs.set s.toNat v) s = v := by
  unfold rd
  rw [List.getD_eq_getElem?_getD, List.getElem?_set_self (by omega)]; rfl
theorem rd_set_ne {xs : List Int} {s t v : Int} (h0 : 0 ≤ s) (h1 : 0 ≤ t) (h : s ≠ t) : rd (xs.set s.toNat v) t = rd xs t := by
  unfold rd
  rw [List.getD_eq_getElem?_getD, List.getD_eq_getElem?_getD, List.getElem?_set_ne (by omega)]

/-! sumL -/
def sumL : List Int → Int
  | [] => 0
  | x :: r => x + sumL r
theorem rd_zero (x : Int) (r : List Int) : rd (x :: r) ((0 : Nat) : Int) = x := rfl
theorem rd_succ (x : Int) (r : List Int) (i : Nat) : rd (x :: r) ((i + 1 : Nat) : Int) = rd r (i : Int) := by
  rw [rd_nat, rd_nat]; rfl
theorem sumL_set (l : List Int) : ∀ (i : Nat) (v : Int), i < l.length → sumL (l.set i v) = sumL l - rd l (i : Int) + v := by
  induction l with
  | nil => intro i v h; exact absurd h (by simp)
  | cons x l ih =>
    intro i v h
    cases i with
    | zero => rw [rd_zero]; simp only [List.set_cons_zero, sumL]; omega
    | succ i =>
      have h2 := ih i v (by simpa using h)
      rw [rd_succ]
      simp only [List.set_cons_succ, sumL]; omega
theorem sumL_nonneg (l : List Int) : (∀ x ∈ l, 0 ≤ x) → 0 ≤ sumL l := by
  induction l with
  | nil => intro _; exact Int.le_refl _
  | cons x l ih =>
    intro h
    have h1 := h x List.mem_cons_self
    have h2 := ih (fun y hy => h y (List.mem_cons_of_mem _ hy))
    simp only [sumL]; omega
theorem sumL_ge (l : List Int) : (∀ x ∈ l, 0 ≤ x) → ∀ x ∈ l, x ≤ sumL l := by
  induction l with
  | nil => intro _ x hx; exact absurd hx (by simp)
  | cons y l ih =>
    intro h x hx
    have h1 := h y List.mem_cons_self
    have h3 := fun z hz => h z (List.mem_cons_of_mem _ hz)
    have h2 := sumL_nonneg l h3
    simp only [sumL]
    rcases List.mem_cons.1 hx with rfl | hx
    · omega
    · have := ih h3 x hx; omega
theorem sumL_le (l : List Int) (b : Int) : (∀ x ∈ l, x ≤ b) → sumL l ≤ b * (l.length : Int) := by
  induction l with
  | nil => intro _; simp [sumL]
  | cons y l ih =>
    intro h
    have h1 := h y List.mem_cons_self
    have h2 := ih (fun z hz => h z (List.mem_cons_of_mem _ hz))
    have e : b * ((y :: l).length : Int) = b * (l.length : Int) + b := by
      rw [List.length_cons, show ((l.length + 1 : Nat) : Int) = (l.length : Int) + 1 by omega, Int.mul_add, Int.mul_one]
    rw [e]
    simp only [sumL]; omega
theorem rd_setn (l : List Int) (i j : Nat) (v : Int) (hi : i < l.length) : rd (l.set i v) (j : Int) = if i = j then v else rd l (j : Int) := by
  by_cases h : i = j
  · subst h
    rw [if_pos rfl]
    have := rd_set_same (xs := l) (s := (i : Int)) (v := v) (by omega) (by omega)
    rwa [Int.toNat_natCast] at this
  · rw [if_neg h]
    have := rd_set_ne (xs := l) (s := (i : Int)) (t := (j : Int)) (v := v) (by omega) (by omega) (by omega)
    rwa [Int.toNat_natCast] at this
theorem mem_rd {l : List Int} {x : Int} (h : x ∈ l) : ∃ j : Nat, j < l.length ∧ rd l (j : Int) = x := by
  obtain ⟨j, hj, e⟩ := List.getElem_of_mem h
  exact ⟨j, hj, by rw [rd_get hj, e]⟩
theorem all_rd {l : List Int} {P : Int → Prop} (h : ∀ j : Nat, j < l.length → P (rd l (j : Int))) : ∀ x ∈ l, P x := by
  intro x hx
  obtain ⟨j, hj, e⟩ := mem_rd hx
  rw [← e]; exact h j hj

/-! within -/
theorem within_eq (a b c : Int) : impl_within.f a b c = some (decide (b ≤ a ∧ a ≤ c)) := by
  unfold impl_within.f
  by_cases h : b ≤ a
  · simp [h, ge_iff_le]
  · simp [h, ge_iff_le]

/-! areIn -/
theorem areIn_l0 (lo hi : Int) (xs : List Int) (hn : xs.length ≤ 1099511627776) : ∀ d n, n + d = xs.length → Ev (fun k => impl_areIn.l0 k lo hi xs (xs.length : Int) (n : Int)) (inAll lo hi (xs.drop n)) := by
  intro d
  induction d with
  | zero =>
    intro n h
    apply Ev.succ
    have h1 : ¬ ((n : Int) < (xs.length : Int)) := by omega
    have h2 : xs.drop n = [] := List.drop_eq_nil_of_le (by omega)
    simp only [impl_areIn.l0, h1, if_false, h2]
    exact Ev.now true
  | succ d ih =>
    intro n h
    apply Ev.succ
    have h1 : (n : Int) < (xs.length : Int) := by omega
    have h2 : (0 : Int) ≤ (n : Int) := by omega
    have h3 := ih (n + 1) (by omega)
    rw [drop_rd (show n < xs.length by omega), inAll_cons]
    simp only [impl_areIn.l0, h1, h2, if_true, within_eq, Option.bind_some, w64_succ (show n < 9223372036854775807 by omega)]
    by_cases hc : lo ≤ rd xs (n : Int) ∧ rd xs (n : Int) ≤ hi
    · simp only [hc, decide_true, if_true, Bool.true_and, and_self]; exact h3
    · simp only [hc, decide_false, Bool.false_and, Bool.false_eq_true, if_false]; exact Ev.now false
theorem areIn_ev (lo hi : Int) (xs : List Int) (hn : xs.length ≤ 1099511627776) : Ev (fun k => impl_areIn.f k xs lo hi) (inAll lo hi xs) := by
  have h := areIn_l0 lo hi xs hn xs.length 0 (by omega)
  exact h

/-! areNeeds -/
theorem areStations_eq (n : Int) : impl_areStations.f n = some (decide (1 ≤ n ∧ n ≤ 12)) := by
  unfold impl_areStations.f
  rw [within_eq]; rfl
theorem areNeeds_ev (xs : List Int) (hn : xs.length ≤ 1099511627776) : Ev (fun k => impl_areNeeds.f k xs) (inAll 0 1000 xs && decide (1 ≤ (xs.length : Int) ∧ (xs.length : Int) ≤ 12)) := by
  unfold impl_areNeeds.f
  simp only [areStations_eq, Option.bind_some]
  by_cases h : 1 ≤ (xs.length : Int) ∧ (xs.length : Int) ≤ 12
  · simp only [h, and_self, decide_true, if_true, Bool.and_true]
    exact Ev.bind (areIn_ev 0 1000 xs hn) (Ev.now _)
  · simp only [h, decide_false, Bool.false_eq_true, if_false, Bool.and_false]
    exact Ev.now _

/-! ReserveI -/
structure RsOK (N : Nat) (l : List Int) : Prop where
  ll : l.length = N
  hl : ∀ j : Nat, j < N → 0 ≤ rd l (j : Int) ∧ rd l (j : Int) ≤ 1000
theorem RsOK.nn {N : Nat} {l : List Int} (H : RsOK N l) : ∀ x ∈ l, 0 ≤ x := all_rd (fun j hj => (H.hl j (by rw [← H.ll]; exact hj)).1)
def rsTake (l : List Int) (i : Nat) : List Int := l.set i (rd l (i : Int) - 1)
theorem rsOK_take {N : Nat} {l : List Int} (H : RsOK N l) {i : Nat} (hi : i < N) (hp : rd l (i : Int) > 0) : RsOK N (rsTake l i) := by
  refine ⟨by unfold rsTake; rw [List.length_set]; exact H.ll, fun j hj => ?_⟩
  unfold rsTake
  rw [rd_setn _ _ _ _ (by rw [H.ll]; exact hi)]
  have h1 := H.hl j hj
  have h2 := H.hl i hi
  split
  · omega
  · exact h1
theorem rsSum {N : Nat} {l : List Int} (H : RsOK N l) {i : Nat} (hi : i < N) : sumL (rsTake l i) = sumL l - 1 := by
  unfold rsTake
  rw [sumL_set _ _ _ (by rw [H.ll]; exact hi)]; omega
theorem rs_zero {N : Nat} {l : List Int} (H : RsOK N l) (h : ¬ maxL l > 0) : ∀ j : Nat, j < N → rd l (j : Int) = 0 := by
  intro j hj
  have h1 := maxL_ge (rd_mem (xs := l) (n := j) (by rw [H.ll]; exact hj))
  have h2 := H.hl j hj
  omega
/-- What turns of a round keep. -/
def RsStep (N : Nat) (f : Int) (P : List Int → List (List Int) → List Int → Nat → Prop) : Prop :=
  ∀ (l : List Int) (out : List (List Int)) (own : List Int) (i : Nat), i < N → RsOK N l → P l out own i →
    (rd l (i : Int) > 0 ∧ (own.length : Int) < f → P (rsTake l i) out (own ++ [(i : Int)]) (i + 1)) ∧ (¬ (rd l (i : Int) > 0 ∧ (own.length : Int) < f) → P l out own (i + 1))
theorem rs_l2 {N : Nat} (hN : 1 ≤ N ∧ N ≤ 12) {f : Int} (hf : 1 ≤ f ∧ f ≤ 20) (P : List Int → List (List Int) → List Int → Nat → Prop) (hP : RsStep N f P) :
    ∀ (d i : Nat) (l : List Int) (out : List (List Int)) (own : List Int), i + d = N → RsOK N l → (own.length : Int) ≤ f → P l out own i →
      ∃ (l' own' : List Int), RsOK N l' ∧ (own'.length : Int) ≤ f ∧ P l' out own' N ∧ sumL l' + (own'.length : Int) = sumL l + (own.length : Int) ∧ own.length ≤ own'.length ∧
        ((own.length : Int) < f → ∀ j : Nat, i ≤ j → j < N → rd l (j : Int) > 0 → own.length < own'.length) ∧
        ∀ r, Ev (fun k => impl_ReserveSlots.l1 k f l' out own') r → Ev (fun k => impl_ReserveSlots.l2 k f l out own (N : Int) (i : Int)) r := by
  intro d
  induction d with
  | zero =>
    intro i l out own hi H hle hp
    obtain rfl : i = N := by omega
    refine ⟨l, own, H, hle, hp, rfl, Nat.le_refl _, fun _ j h1 h2 => absurd h2 (by omega), fun r hr => ?_⟩
    have c1 : ¬ (i : Int) < (i : Int) := Int.lt_irrefl _
    apply Ev.succ
    simp only [impl_ReserveSlots.l2]
    exact Ev.cond (fun h' => absurd h' c1) (fun _ => hr)
  | succ d ih =>
    intro i l out own hi H hle hp
    have hi' : i < N := by omega
    have hri := H.hl i hi'
    have c1 : (i : Int) < (N : Int) := Int.ofNat_lt.2 hi'
    have c2 : (0 : Int) ≤ (i : Int) := Int.natCast_nonneg _
    have c3 : (i : Int) < (l.length : Int) := by rw [H.ll]; exact c1
    have hws := w64_succ (show i < 9223372036854775807 by omega)
    have e1 : wrap64 (rd l (i : Int) - 1) = rd l (i : Int) - 1 := w64 (by omega) (by omega)
    obtain ⟨s1, s2⟩ := hP l out own i hi' H hp
    by_cases hc : rd l (i : Int) > 0 ∧ (own.length : Int) < f
    · have hsum := rsSum H hi'
      have hlen : (own ++ [(i : Int)]).length = own.length + 1 := by rw [List.length_append, List.length_singleton]
      obtain ⟨l', own', g1, g2, g3, g4, g5, g6, g7⟩ := ih (i + 1) _ out _ (by omega) (rsOK_take H hi' hc.1) (by rw [hlen]; omega) (s1 hc)
      rw [hlen] at g4 g5
      refine ⟨l', own', g1, g2, g3, by omega, by omega, fun _ j _ _ _ => by omega, fun r hr => ?_⟩
      have c4 : own.length < 17592186044416 := by omega
      apply Ev.succ
      simp only [impl_ReserveSlots.l2, hws, e1, Int.toNat_natCast]
      refine Ev.cond (fun _ => ?_) (fun h' => absurd c1 h')
      refine Ev.cond (fun _ => ?_) (fun h' => absurd c2 h')
      refine Ev.cond (fun _ => ?_) (fun h' => absurd c3 h')
      refine Ev.cond (fun _ => ?_) (fun h' => absurd hc.1 h')
      refine Ev.cond (fun _ => ?_) (fun h' => absurd hc.2 h')
      exact Ev.cond (fun _ => g7 r hr) (fun h' => absurd c4 h')
    · obtain ⟨l', own', g1, g2, g3, g4, g5, g6, g7⟩ := ih (i + 1) l out own (by omega) H hle (s2 hc)
      refine ⟨l', own', g1, g2, g3, g4, g5, fun hlt j h1 h2 h3 => ?_, fun r hr => ?_⟩
      · by_cases hj : j = i
        · subst hj; exact absurd ⟨h3, hlt⟩ hc
        · exact g6 hlt j (by omega) h2 h3
      · apply Ev.succ
        simp only [impl_ReserveSlots.l2, hws]
        refine Ev.cond (fun _ => ?_) (fun h' => absurd c1 h')
        refine Ev.cond (fun _ => ?_) (fun h' => absurd c2 h')
        refine Ev.cond (fun _ => ?_) (fun h' => absurd c3 h')
        refine Ev.cond (fun h0 => ?_) (fun _ => g7 r hr)
        exact Ev.cond (fun h' => absurd ⟨h0, h'⟩ hc) (fun _ => g7 r hr)
theorem rs_l1 {N : Nat} (hN : 1 ≤ N ∧ N ≤ 12) {f : Int} (hf : 1 ≤ f ∧ f ≤ 20) (P : List Int → List (List Int) → List Int → Nat → Prop) (hP : RsStep N f P) (hR : ∀ l out own, P l out own N → P l out own 0) :
    ∀ (s : Nat) (l : List Int) (out : List (List Int)) (own : List Int), sumL l ≤ (s : Int) → out.length ≤ 300 → RsOK N l → (own.length : Int) ≤ f → P l out own 0 →
      ∃ (l' own' : List Int), RsOK N l' ∧ (own'.length : Int) ≤ f ∧ P l' out own' 0 ∧ sumL l' + (own'.length : Int) = sumL l + (own.length : Int) ∧ own.length ≤ own'.length ∧
        ((own.length : Int) < f → maxL l > 0 → own.length < own'.length) ∧ ((own'.length : Int) = f ∨ ¬ maxL l' > 0) ∧
        ∀ r, Ev (fun k => impl_ReserveSlots.l0 k f l' (out ++ [own'])) r → Ev (fun k => impl_ReserveSlots.l1 k f l out own) r := by
  have stop : ∀ (l : List Int) (out : List (List Int)) (own : List Int), out.length ≤ 300 → RsOK N l → ¬ ((own.length : Int) < f ∧ maxL l > 0) →
      ∀ r, Ev (fun k => impl_ReserveSlots.l0 k f l (out ++ [own])) r → Ev (fun k => impl_ReserveSlots.l1 k f l out own) r := by
    intro l out own ho H hc r hr
    have c5 : out.length < 5864062014805 := by omega
    have fin : Ev (fun k => impl_ReserveSlots.j3 k f l out own false) r := by
      apply Ev.succ
      simp only [impl_ReserveSlots.j3]
      refine Ev.cond (fun h' => absurd h' (by decide)) (fun _ => ?_)
      exact Ev.cond (fun _ => hr) (fun h' => absurd c5 h')
    apply Ev.succ
    simp only [impl_ReserveSlots.l1]
    refine Ev.cond (fun h1 => ?_) (fun _ => fin)
    refine Ev.bind (Max_ev l (by rw [H.ll]; omega) (by rw [H.ll]; omega)) ?_
    rw [decide_eq_false (fun h2 => hc ⟨h1, h2⟩)]
    exact fin
  intro s
  induction s with
  | zero =>
    intro l out own hs ho H hle hp
    have hm : ¬ maxL l > 0 := by
      have h1 := sumL_ge l H.nn _ (maxL_mem (l := l) (by rw [H.ll]; omega))
      omega
    exact ⟨l, own, H, hle, hp, rfl, Nat.le_refl _, fun _ h => absurd h hm, .inr hm, stop l out own ho H (fun h => hm h.2)⟩
  | succ s ih =>
    intro l out own hs ho H hle hp
    by_cases hc : (own.length : Int) < f ∧ maxL l > 0
    · obtain ⟨j, hj, e⟩ := mem_rd (maxL_mem (l := l) (by rw [H.ll]; omega))
      obtain ⟨l1, own1, a1, a2, a3, a4, a5, a6, a7⟩ := rs_l2 hN hf P hP N 0 l out own (by omega) H hle hp
      have hlt := a6 hc.1 j (by omega) (by rw [← H.ll]; exact hj) (by rw [e]; exact hc.2)
      obtain ⟨l', own', g1, g2, g3, g4, g5, g6, g7, g8⟩ := ih l1 out own1 (by omega) ho a1 a2 (hR _ _ _ a3)
      refine ⟨l', own', g1, g2, g3, by omega, by omega, fun _ _ => by omega, g7, fun r hr => ?_⟩
      apply Ev.succ
      simp only [impl_ReserveSlots.l1]
      refine Ev.cond (fun _ => ?_) (fun h' => absurd hc.1 h')
      refine Ev.bind (Max_ev l (by rw [H.ll]; omega) (by rw [H.ll]; omega)) ?_
      rw [decide_eq_true hc.2]
      apply Ev.succ
      simp only [impl_ReserveSlots.j3]
      refine Ev.cond (fun _ => ?_) (fun h' => absurd (by trivial) h')
      rw [H.ll]
      exact a7 r (g8 r hr)
    · refine ⟨l, own, H, hle, hp, rfl, Nat.le_refl _, fun h1 h2 => absurd ⟨h1, h2⟩ hc, ?_, stop l out own ho H hc⟩
      by_cases h1 : (own.length : Int) < f
      · exact .inr (fun h2 => hc ⟨h1, h2⟩)
      · exact .inl (by omega)
/-- All frames. -/
theorem rs_l0 {N : Nat} (hN : 1 ≤ N ∧ N ≤ 12) {f : Int} (hf : 1 ≤ f ∧ f ≤ 20) (P : List Int → List (List Int) → List Int → Nat → Prop) (Z : List Int → List (List Int) → Prop) (hP : RsStep N f P) (hR : ∀ l out own, P l out own N → P l out own 0)
    (hS : ∀ l out, RsOK N l → maxL l > 0 → out.length < 300 → Z l out → P l out [] 0)
    (hF : ∀ l out own, RsOK N l → 1 ≤ own.length → (own.length : Int) ≤ f → ((own.length : Int) = f ∨ ¬ maxL l > 0) → P l out own 0 → Z l (out ++ [own])) :
    ∀ (s : Nat) (l : List Int) (out : List (List Int)), sumL l ≤ (s : Int) → out.length ≤ 300 → RsOK N l → Z l out →
      ∃ (l' : List Int) (out' : List (List Int)), RsOK N l' ∧ Z l' out' ∧ out'.length ≤ 300 ∧ ((¬ maxL l' > 0 ∧ Ev (fun k => impl_ReserveSlots.l0 k f l out) (out', true)) ∨ (maxL l' > 0 ∧ out'.length = 300 ∧ Ev (fun k => impl_ReserveSlots.l0 k f l out) (([] : List (List Int)), false))) := by
  have fin : ∀ (l : List Int) (out : List (List Int)), RsOK N l → ¬ maxL l > 0 → Ev (fun k => impl_ReserveSlots.l0 k f l out) (out, true) := by
    intro l out H hm
    apply Ev.succ
    simp only [impl_ReserveSlots.l0]
    refine Ev.bind (Max_ev l (by rw [H.ll]; omega) (by rw [H.ll]; omega)) ?_
    exact Ev.cond (fun h' => absurd h' hm) (fun _ => Ev.now _)
  intro s
  induction s with
  | zero =>
    intro l out hs ho H hz
    have hm : ¬ maxL l > 0 := by
      have h1 := sumL_ge l H.nn _ (maxL_mem (l := l) (by rw [H.ll]; omega))
      omega
    exact ⟨l, out, H, hz, ho, .inl ⟨hm, fin l out H hm⟩⟩
  | succ s ih =>
    intro l out hs ho H hz
    by_cases hm : maxL l > 0
    · by_cases h3 : out.length = 300
      · refine ⟨l, out, H, hz, ho, .inr ⟨hm, h3, ?_⟩⟩
        have c3 : (out.length : Int) = 300 := by omega
        apply Ev.succ
        simp only [impl_ReserveSlots.l0]
        refine Ev.bind (Max_ev l (by rw [H.ll]; omega) (by rw [H.ll]; omega)) ?_
        refine Ev.cond (fun _ => ?_) (fun h' => absurd hm h')
        exact Ev.cond (fun _ => Ev.now _) (fun h' => absurd c3 h')
      · have c3 : ¬ (out.length : Int) = 300 := by omega
        obtain ⟨l1, own1, a1, a2, a3, a4, a5, a6, a7, a8⟩ := rs_l1 hN hf P hP hR (s + 1) l out [] hs ho H (by simp; omega) (hS l out H hm (by omega) hz)
        have hlt := a6 (by simp; omega) hm
        simp only [List.length_nil] at hlt a4
        obtain ⟨l', out', g1, g2, g3, g4⟩ := ih l1 (out ++ [own1]) (by omega) (by rw [List.length_append, List.length_singleton]; omega) a1 (hF l1 out own1 a1 (by omega) a2 a7 a3)
        refine ⟨l', out', g1, g2, g3, ?_⟩
        have st : ∀ r, Ev (fun k => impl_ReserveSlots.l0 k f l1 (out ++ [own1])) r → Ev (fun k => impl_ReserveSlots.l0 k f l out) r := by
          intro r hr
          apply Ev.succ
          simp only [impl_ReserveSlots.l0]
          refine Ev.bind (Max_ev l (by rw [H.ll]; omega) (by rw [H.ll]; omega)) ?_
          refine Ev.cond (fun _ => ?_) (fun h' => absurd hm h')
          exact Ev.cond (fun h' => absurd h' c3) (fun _ => a8 r hr)
        rcases g4 with ⟨k1, k2⟩ | ⟨k1, k2, k3⟩
        · exact .inl ⟨k1, st _ k2⟩
        · exact .inr ⟨k1, k2, st _ k3⟩
    · exact ⟨l, out, H, hz, ho, .inl ⟨hm, fin l out H hm⟩⟩

/-! l00In -/
theorem l00In_eq (a b c : Int) : spec_l00In.f a b c = some (decide (b ≤ a ∧ a ≤ c)) := by
  unfold spec_l00In.f
  by_cases h : b ≤ a
  · simp [h, ge_iff_le]
  · simp [h, ge_iff_le]

/-! l09Needs -/
theorem l09Many_eq (n : Int) : spec_l09Many.f n = some (decide (1 ≤ n ∧ n ≤ 12)) := by
  unfold spec_l09Many.f
  rw [l00In_eq]; rfl
theorem l09Needs_l0 (xs : List Int) (hn : xs.length ≤ 1099511627776) : ∀ d n, n + d = xs.length → Ev (fun k => spec_l09Needs.l0 k xs (n : Int)) (inAll 0 1000 (xs.drop n) && decide (1 ≤ (xs.length : Int) ∧ (xs.length : Int) ≤ 12)) := by
  intro d
  induction d with
  | zero =>
    intro n h
    apply Ev.succ
    have h1 : ¬ ((n : Int) < (xs.length : Int)) := by omega
    have h2 : xs.drop n = [] := List.drop_eq_nil_of_le (by omega)
    simp only [spec_l09Needs.l0, h1, if_false, h2, l09Many_eq, Option.bind_some]
    exact Ev.now _
  | succ d ih =>
    intro n h
    apply Ev.succ
    have h1 : (n : Int) < (xs.length : Int) := by omega
    have h2 : (0 : Int) ≤ (n : Int) := by omega
    have h3 := ih (n + 1) (by omega)
    rw [drop_rd (show n < xs.length by omega), inAll_cons]
    simp only [spec_l09Needs.l0, h1, h2, if_true, l00In_eq, Option.bind_some, w64_succ (show n < 9223372036854775807 by omega)]
    by_cases hc : 0 ≤ rd xs (n : Int) ∧ rd xs (n : Int) ≤ 1000
    · simp only [hc, decide_true, if_true, Bool.true_and, and_self]; exact h3
    · simp only [hc, decide_false, Bool.false_and, Bool.false_eq_true, if_false]; exact Ev.now false
theorem l09Needs_ev (xs : List Int) (hn : xs.length ≤ 1099511627776) : Ev (fun k => spec_l09Needs.f k xs) (inAll 0 1000 xs && decide (1 ≤ (xs.length : Int) ∧ (xs.length : Int) ≤ 12)) := by
  have h := l09Needs_l0 xs hn xs.length 0 (by omega)
  exact h

/-! toInt64S -/
theorem toInt64S_l0 (xs : List Int) (hn : xs.length ≤ 1099511627776) : ∀ d n, n + d = xs.length → Ev (fun k => laws_toInt64S.l0 k xs (xs.take n ++ List.replicate d 0) (n : Int)) xs := by
  intro d
  induction d with
  | zero =>
    intro n h
    apply Ev.succ
    have h1 : ¬ ((n : Int) < (xs.length : Int)) := by omega
    have h2 : xs.take n = xs := List.take_of_length_le (by omega)
    simp only [laws_toInt64S.l0, h1, if_false, h2, List.replicate_zero, List.append_nil]
    exact Ev.now _
  | succ d ih =>
    intro n h
    apply Ev.succ
    have h1 : (n : Int) < (xs.length : Int) := by omega
    have h2 : (0 : Int) ≤ (n : Int) := by omega
    have h3 := ih (n + 1) (by omega)
    have h4 : (n : Int) < ((xs.take n ++ List.replicate (d + 1) (0 : Int)).length : Int) := by
      simp only [List.length_append, List.length_take, List.length_replicate]; omega
    have h5 : (xs.take n ++ List.replicate (d + 1) (0 : Int)).set n (rd xs (n : Int)) = xs.take (n + 1) ++ List.replicate d 0 := by
      rw [List.replicate_succ, set_mid _ _ _ _ _ (by rw [List.length_take]; omega), take_rd (show n < xs.length by omega)]
      simp
    simp only [laws_toInt64S.l0, h1, h2, h4, if_true, Int.toNat_natCast, h5, w64_succ (show n < 9223372036854775807 by omega)]
    exact h3
theorem toInt64S_ev (xs : List Int) (hn : xs.length ≤ 1099511627776) : Ev (fun k => laws_toInt64S.f k xs) xs := by
  unfold laws_toInt64S.f
  have h1 : (0 : Int) ≤ (xs.length : Int) := by omega
  have h2 : xs.length ≤ 35184372088832 := by omega
  simp only [h1, if_true, Int.toNat_natCast, h2]
  have h := toInt64S_l0 xs hn xs.length 0 (by omega)
  exact h

/-! markInt64S -/
theorem markInt64S_l0 (m : Int) (hm : 0 ≤ m) (hm2 : m ≤ 4611686018427387904) : ∀ (d : Nat) (ws xs : List Int) (n : Nat), ws.length = n → xs.length = d → n + d ≤ 1099511627776 → Ev (fun k => laws_markInt64S.l0 k (ws ++ xs) (m + n) (n : Int)) (m + n + d, ws ++ upFrom (m + n) d) := by
  intro d
  induction d with
  | zero =>
    intro ws xs n h hx hn
    apply Ev.succ
    obtain rfl : xs = [] := List.eq_nil_of_length_eq_zero hx
    have h1 : ¬ ((n : Int) < ((ws ++ ([] : List Int)).length : Int)) := by simp; omega
    simp only [laws_markInt64S.l0, h1, if_false, upFrom]
    exact Ev.of (fun _ => LeO.refl _) (k := 0) (by simp)
  | succ d ih =>
    intro ws xs n h hx hn
    apply Ev.succ
    obtain ⟨x, xs, rfl⟩ : ∃ x ys, xs = x :: ys := by
      cases xs with
      | nil => simp at hx
      | cons x ys => exact ⟨x, ys, rfl⟩
    have h1 : ((n : Int) < ((ws ++ x :: xs).length : Int)) := by simp; omega
    have h2 : (0 : Int) ≤ (n : Int) := by omega
    have h3 := ih (ws ++ [m + n]) xs (n + 1) (by simp [h]) (by simpa using hx) (by omega)
    have h5 : wrap64 (m + n + 1) = m + ((n + 1 : Nat) : Int) := by rw [w64 (by omega) (by omega)]; omega
    simp only [laws_markInt64S.l0, h1, h2, if_true, Int.toNat_natCast, set_mid _ _ _ _ _ h, h5, w64_succ (show n < 9223372036854775807 by omega)]
    have e1 : ws ++ [m + (n : Int)] ++ xs = ws ++ (m + n) :: xs := by simp
    have e2 : ws ++ [m + (n : Int)] ++ upFrom (m + ((n + 1 : Nat) : Int)) d = ws ++ upFrom (m + n) (d + 1) := by
      rw [upFrom, List.append_assoc]
      have e3 : m + ((n + 1 : Nat) : Int) = m + n + 1 := by omega
      rw [e3]; rfl
    have e4 : m + ((n + 1 : Nat) : Int) + (d : Int) = m + n + ((d + 1 : Nat) : Int) := by omega
    rw [e1, e2, e4] at h3
    exact h3
theorem markInt64S_ev (xs : List Int) (m : Int) (hm : 0 ≤ m) (hm2 : m ≤ 4611686018427387904) (hn : xs.length ≤ 1099511627776) : Ev (fun k => laws_markInt64S.f k xs m) (m + (xs.length : Int), upFrom m xs.length) := by
  have h := markInt64S_l0 m hm hm2 xs.length [] xs 0 rfl rfl (by omega)
  have e : m + ((0 : Nat) : Int) = m := by omega
  rw [e] at h
  exact h

/-! heldInt64S -/
theorem heldInt64S_l0 (m : Int) (hm : 0 ≤ m) (hm2 : m ≤ 4611686018427387904) : ∀ (d : Nat) (ws : List Int) (n : Nat), ws.length = n → n + d ≤ 1099511627776 → Ev (fun k => laws_heldInt64S.l0 k (ws ++ upFrom (m + n) d) (m + n) (n : Int)) (m + n + d) := by
  intro d
  induction d with
  | zero =>
    intro ws n h hn
    apply Ev.succ
    have h1 : ¬ ((n : Int) < ((ws ++ upFrom (m + n) 0).length : Int)) := by simp [upFrom]; omega
    simp only [laws_heldInt64S.l0, h1, if_false]
    exact Ev.of (fun _ => LeO.refl _) (k := 0) (by simp)
  | succ d ih =>
    intro ws n h hn
    apply Ev.succ
    have h1 : ((n : Int) < ((ws ++ upFrom (m + n) (d + 1)).length : Int)) := by simp [upFrom_length]; omega
    have h2 : (0 : Int) ≤ (n : Int) := by omega
    have h3 := ih (ws ++ [m + n]) (n + 1) (by simp [h]) (by omega)
    have h5 : wrap64 (m + n + 1) = m + ((n + 1 : Nat) : Int) := by rw [w64 (by omega) (by omega)]; omega
    have h6 : rd (ws ++ upFrom (m + n) (d + 1)) (n : Int) = m + n := by
      rw [rd_nat, List.getD_eq_getElem?_getD, List.getElem?_append_right (by omega), h, Nat.sub_self]; rfl
    simp only [laws_heldInt64S.l0, h1, h2, if_true, h5, h6, w64_succ (show n < 9223372036854775807 by omega)]
    have e2 : ws ++ [m + (n : Int)] ++ upFrom (m + ((n + 1 : Nat) : Int)) d = ws ++ upFrom (m + n) (d + 1) := by
      rw [upFrom, List.append_assoc]
      have e3 : m + ((n + 1 : Nat) : Int) = m + n + 1 := by omega
      rw [e3]; rfl
    have e4 : m + ((n + 1 : Nat) : Int) + (d : Int) = m + n + ((d + 1 : Nat) : Int) := by omega
    rw [e2, e4] at h3
    exact h3
theorem heldInt64S_ev (m : Int) (l : Nat) (hm : 0 ≤ m) (hm2 : m ≤ 4611686018427387904) (hn : l ≤ 1099511627776) : Ev (fun k => laws_heldInt64S.f k (upFrom m l) m) (m + (l : Int)) := by
  have h := heldInt64S_l0 m hm hm2 l [] 0 rfl (by omega)
  have e : m + ((0 : Nat) : Int) = m := by omega
  rw [e] at h
  exact h

/-! eqInt64S -/
theorem eqInt64S_l0 (xs ys : List Int) (hl : xs.length = ys.length) (hn : xs.length ≤ 1099511627776) : ∀ d n, n + d = xs.length → Ev (fun k => laws_eqInt64S.l0 k xs ys (n : Int)) (decide (xs.drop n = ys.drop n)) := by
  intro d
  induction d with
  | zero =>
    intro n h
    apply Ev.succ
    have h1 : ¬ ((n : Int) < (xs.length : Int)) := by omega
    have h2 : xs.drop n = [] := List.drop_eq_nil_of_le (by omega)
    have h3 : ys.drop n = [] := List.drop_eq_nil_of_le (by omega)
    simp only [laws_eqInt64S.l0, h1, if_false, h2, h3, decide_true]
    exact Ev.now true
  | succ d ih =>
    intro n h
    apply Ev.succ
    have h1 : (n : Int) < (xs.length : Int) := by omega
    have h1' : (n : Int) < (ys.length : Int) := by omega
    have h2 : (0 : Int) ≤ (n : Int) := by omega
    have h3 := ih (n + 1) (by omega)
    rw [drop_rd (show n < xs.length by omega), drop_rd (show n < ys.length by omega)]
    simp only [laws_eqInt64S.l0, h1, h1', h2, if_true, w64_succ (show n < 9223372036854775807 by omega), List.cons.injEq]
    by_cases hc : rd xs (n : Int) = rd ys (n : Int)
    · simp only [hc, if_true, true_and]; exact h3
    · simp only [hc, if_false, false_and, decide_false]; exact Ev.now false
theorem eqInt64S_ev (xs ys : List Int) (hn : xs.length ≤ 1099511627776) : Ev (fun k => laws_eqInt64S.f k xs ys) (decide (xs = ys)) := by
  unfold laws_eqInt64S.f
  by_cases hl : xs.length = ys.length
  · have h1 : (xs.length : Int) = (ys.length : Int) := by omega
    simp only [h1, if_true]
    have h := eqInt64S_l0 xs ys hl hn xs.length 0 (by omega)
    exact h
  · have h1 : ¬ (xs.length : Int) = (ys.length : Int) := by omega
    have h2 : ¬ xs = ys := fun h => hl (by rw [h])
    simp only [h1, if_false, h2, decide_false]
    exact Ev.now false
theorem eqInt64S_same (xs : List Int) (hn : xs.length ≤ 1099511627776) : Ev (fun k => laws_eqInt64S.f k xs xs) true := by
  have h := eqInt64S_ev xs xs hn
  rw [decide_eq_true rfl] at h
  exact h

/-! rowsSS -/
/-- How many numbers stand in lists. -/
def szR : List (List Int) → Nat
  | [] => 0
  | x :: r => x.length + szR r
def rowsUp : Int → List (List Int) → List (List Int)
  | _, [] => []
  | m, x :: r => upFrom m x.length :: rowsUp (m + (x.length : Int)) r
theorem LL_at (ws xs : List (List Int)) (x : List Int) (n : Nat) (h : ws.length = n) : (ws ++ x :: xs).getD n ([] : List Int) = x := by
  rw [List.getD_eq_getElem?_getD, List.getElem?_append_right (by omega), h, Nat.sub_self]; rfl
theorem markSS_l0 : ∀ (xs ws : List (List Int)) (m : Int) (n : Nat), ws.length = n → 0 ≤ m → m + (szR xs : Int) ≤ 1099511627776 → n + xs.length ≤ 1099511627776 →
    Ev (fun k => laws_markInt64SS.l0 k (ws ++ xs) m (n : Int)) (m + (szR xs : Int), ws ++ rowsUp m xs) := by
  intro xs
  induction xs with
  | nil =>
    intro ws m n hw hm hs hn
    have c1 : ¬ (n : Int) < ((ws ++ []).length : Int) := by rw [List.append_nil]; omega
    apply Ev.succ
    simp only [laws_markInt64SS.l0, szR, rowsUp]
    refine Ev.cond (fun h' => absurd h' c1) (fun _ => ?_)
    exact Ev.const (by simp)
  | cons x xs ih =>
    intro ws m n hw hm hs hn
    simp only [szR, List.length_cons] at hs hn
    have c1 : (n : Int) < ((ws ++ x :: xs).length : Int) := by rw [List.length_append, List.length_cons]; omega
    have c2 : (0 : Int) ≤ (n : Int) := by omega
    have h3 := ih (ws ++ [upFrom m x.length]) (m + (x.length : Int)) (n + 1) (by rw [List.length_append, List.length_singleton]; omega) (by omega) (by omega) (by omega)
    rw [List.append_assoc, List.append_assoc] at h3
    simp only [List.singleton_append] at h3
    have hmk := markInt64S_ev x m hm (by omega) (by omega)
    apply Ev.succ
    simp only [laws_markInt64SS.l0, Int.toNat_natCast, LL_at ws xs x n hw, w64_succ (show n < 9223372036854775807 by omega), szR, rowsUp]
    refine Ev.cond (fun _ => ?_) (fun h' => absurd c1 h')
    refine Ev.cond (fun _ => ?_) (fun h' => absurd c2 h')
    refine Ev.bind hmk ?_
    have e : (ws ++ x :: xs).set n (upFrom m x.length) = ws ++ upFrom m x.length :: xs := set_mid _ _ _ _ _ hw
    simp only [e]
    rw [show m + ((x.length + szR xs : Nat) : Int) = m + (x.length : Int) + (szR xs : Int) by omega]
    exact h3
theorem markSS_ev (xs : List (List Int)) (m : Int) (hm : 0 ≤ m) (hs : m + (szR xs : Int) ≤ 1099511627776) (hn : xs.length ≤ 1099511627776) : Ev (fun k => laws_markInt64SS.f k xs m) (m + (szR xs : Int), rowsUp m xs) := by
  have h := markSS_l0 xs [] m 0 rfl hm hs (by omega)
  exact h
theorem heldSS_l0 : ∀ (xs ws : List (List Int)) (m : Int) (n : Nat), ws.length = n → 0 ≤ m → m + (szR xs : Int) ≤ 1099511627776 → n + xs.length ≤ 1099511627776 →
    Ev (fun k => laws_heldInt64SS.l0 k (ws ++ rowsUp m xs) m (n : Int)) (m + (szR xs : Int)) := by
  intro xs
  induction xs with
  | nil =>
    intro ws m n hw hm hs hn
    simp only [rowsUp, szR]
    have c1 : ¬ (n : Int) < ((ws ++ []).length : Int) := by rw [List.append_nil]; omega
    apply Ev.succ
    simp only [laws_heldInt64SS.l0]
    refine Ev.cond (fun h' => absurd h' c1) (fun _ => ?_)
    exact Ev.const (by simp)
  | cons x xs ih =>
    intro ws m n hw hm hs hn
    simp only [szR, List.length_cons] at hs hn
    simp only [rowsUp, szR]
    have c1 : (n : Int) < ((ws ++ upFrom m x.length :: rowsUp (m + (x.length : Int)) xs).length : Int) := by rw [List.length_append, List.length_cons]; omega
    have c2 : (0 : Int) ≤ (n : Int) := by omega
    have h3 := ih (ws ++ [upFrom m x.length]) (m + (x.length : Int)) (n + 1) (by rw [List.length_append, List.length_singleton]; omega) (by omega) (by omega) (by omega)
    rw [List.append_assoc] at h3
    simp only [List.singleton_append] at h3
    have hh := heldInt64S_ev m x.length hm (by omega) (by omega)
    have e : rd_L1 (ws ++ upFrom m x.length :: rowsUp (m + (x.length : Int)) xs) (n : Int) = upFrom m x.length := by
      unfold rd_L1
      rw [Int.toNat_natCast]
      exact LL_at _ _ _ _ hw
    have c3 : ¬ m + (x.length : Int) < 0 := by omega
    apply Ev.succ
    simp only [laws_heldInt64SS.l0, e, w64_succ (show n < 9223372036854775807 by omega)]
    refine Ev.cond (fun _ => ?_) (fun h' => absurd c1 h')
    refine Ev.cond (fun _ => ?_) (fun h' => absurd c2 h')
    refine Ev.bind hh ?_
    refine Ev.cond (fun h' => absurd h' c3) (fun _ => ?_)
    rw [show m + ((x.length + szR xs : Nat) : Int) = m + (x.length : Int) + (szR xs : Int) by omega]
    exact h3
theorem heldSS_ev (xs : List (List Int)) (m : Int) (hm : 0 ≤ m) (hs : m + (szR xs : Int) ≤ 1099511627776) (hn : xs.length ≤ 1099511627776) : Ev (fun k => laws_heldInt64SS.f k (rowsUp m xs) m) (m + (szR xs : Int)) := by
  have h := heldSS_l0 xs [] m 0 rfl hm hs (by omega)
  exact h
theorem eqSS_same (xs : List (List Int)) (hn : xs.length ≤ 1099511627776) (hl : ∀ x ∈ xs, x.length ≤ 1099511627776) : Ev (fun k => laws_eqInt64SS.f k xs xs) true := by
  have key : ∀ d n, n + d = xs.length → Ev (fun k => laws_eqInt64SS.l0 k xs xs (n : Int)) true := by
    intro d
    induction d with
    | zero =>
      intro n h
      have c1 : ¬ (n : Int) < (xs.length : Int) := by omega
      apply Ev.succ
      simp only [laws_eqInt64SS.l0]
      exact Ev.cond (fun h' => absurd h' c1) (fun _ => Ev.now _)
    | succ d ih =>
      intro n h
      have c1 : (n : Int) < (xs.length : Int) := by omega
      have c2 : (0 : Int) ≤ (n : Int) := by omega
      have e : rd_L1 xs (n : Int) = xs[n]'(by omega) := by
        unfold rd_L1
        rw [Int.toNat_natCast, List.getD_eq_getElem?_getD, List.getElem?_eq_getElem (by omega)]; rfl
      have hb := hl _ (List.getElem_mem (show n < xs.length by omega))
      rw [← e] at hb
      apply Ev.succ
      simp only [laws_eqInt64SS.l0, w64_succ (show n < 9223372036854775807 by omega)]
      refine Ev.cond (fun _ => ?_) (fun h' => absurd c1 h')
      refine Ev.cond (fun _ => ?_) (fun h' => absurd c2 h')
      refine Ev.cond (fun _ => ?_) (fun h' => absurd c1 h')
      refine Ev.bind (eqInt64S_same _ hb) ?_
      exact Ev.cond (fun _ => ih (n + 1) (by omega)) (fun h' => absurd (by trivial) h')
  unfold laws_eqInt64SS.f
  exact Ev.cond (fun _ => key xs.length 0 (by omega)) (fun h' => absurd rfl h')
theorem szR_le (xs : List (List Int)) (b : Nat) (h : ∀ x ∈ xs, x.length ≤ b) : szR xs ≤ b * xs.length := by
  induction xs with
  | nil => exact Nat.zero_le _
  | cons x xs ih =>
    have h1 := ih (fun y hy => h y (List.mem_cons_of_mem _ hy))
    have h2 := h x List.mem_cons_self
    simp only [szR, List.length_cons]
    rw [Nat.mul_succ]
    omega

theorem Ev.unsucc {α : Type} {g : Nat → Option α} {r : α} (h : Ev g r) : Ev (fun k => g (k + 1)) r := by
  obtain ⟨K, h⟩ := h
  exact ⟨K, fun k hk => h (k + 1) (by omega)⟩
theorem tmod_next {i N : Nat} (hi : i < N) (hN : N ≤ 12) : Int.tmod (wrap64 ((i : Int) + 1)) (N : Int) = (((i + 1) % N : Nat) : Int) := by
  rw [w64_succ (show i < 9223372036854775807 by omega), Int.tmod_eq_emod_of_nonneg (by omega)]
  rfl
/-- The reference, begun anew at what the program has got so far. -/
def SsP (xs : List Int) (f : Int) (N : Nat) (l : List Int) (out : List (List Int)) (own : List Int) (i : Nat) : Prop :=
  (∀ y ∈ out, y.length ≤ 20) ∧ out.length ≤ 300 ∧
    ∀ r, Ev (fun k => spec_ReserveSlots.l2 k xs f l (sumL l) out own ((i % N : Nat) : Int)) r → Ev (fun k => spec_ReserveSlots.l1 k xs f xs (sumL xs) []) r
def SsZ (xs : List Int) (f : Int) (l : List Int) (out : List (List Int)) : Prop :=
  (∀ y ∈ out, y.length ≤ 20) ∧ ∀ r, Ev (fun k => spec_ReserveSlots.l1 k xs f l (sumL l) out) r → Ev (fun k => spec_ReserveSlots.l1 k xs f xs (sumL xs) []) r
theorem Ss_stop {xs : List Int} {f : Int} {l own : List Int} {out : List (List Int)} {n : Int} {r : List (List Int) × Bool} (ho : out.length ≤ 300) (h : ¬ (sumL l > 0 ∧ (own.length : Int) < f)) :
    Ev (fun k => spec_ReserveSlots.l2 k xs f l (sumL l) out own n) r ↔ Ev (fun k => spec_ReserveSlots.l1 k xs f l (sumL l) (out ++ [own])) r := by
  have c5 : out.length < 5864062014805 := by omega
  have e : ∀ k, spec_ReserveSlots.l2 (k + 1 + 1) xs f l (sumL l) out own n = spec_ReserveSlots.l1 k xs f l (sumL l) (out ++ [own]) := by
    intro k
    simp only [spec_ReserveSlots.l2]
    by_cases h1 : sumL l > 0
    · rw [if_pos h1, decide_eq_false (fun h2 => h ⟨h1, h2⟩)]
      simp only [spec_ReserveSlots.j4, Bool.false_eq_true, if_false, if_pos c5]
    · rw [if_neg h1]
      simp only [spec_ReserveSlots.j4, Bool.false_eq_true, if_false, if_pos c5]
  constructor
  · intro hr
    have h2 := Ev.unsucc (Ev.unsucc hr)
    simp only [e] at h2
    exact h2
  · intro hr
    refine Ev.succ (Ev.succ ?_)
    simp only [e]
    exact hr
theorem SsP_step (xs : List Int) {f : Int} (hf : 1 ≤ f ∧ f ≤ 20) {N : Nat} (hN : 1 ≤ N ∧ N ≤ 12) (hx : xs.length = N) : RsStep N f (SsP xs f N) := by
  intro l out own i hi H g
  obtain ⟨a1, a2, a3⟩ := g
  have hmod : i % N = i := Nat.mod_eq_of_lt hi
  rw [hmod] at a3
  have hil : i < l.length := by rw [H.ll]; exact hi
  have hri := H.hl i hi
  have hge := sumL_ge l H.nn _ (rd_mem hil)
  have hsb : sumL l ≤ 1000 * (l.length : Int) := sumL_le l 1000 (all_rd (fun j hj => (H.hl j (by rw [← H.ll]; exact hj)).2))
  have hll := H.ll
  have c2 : (0 : Int) ≤ (i : Int) := Int.natCast_nonneg _
  have c3 : (i : Int) < (l.length : Int) := Int.ofNat_lt.2 hil
  have c5 : ¬ (xs.length : Int) = 0 := by rw [hx]; omega
  have e5 := tmod_next hi hN.2
  rw [← hx] at e5
  refine ⟨fun hc => ?_, fun hc => ?_⟩
  · have hsum := rsSum H hi
    have e1 : wrap64 (rd l (i : Int) - 1) = rd l (i : Int) - 1 := w64 (by omega) (by omega)
    have e4 : wrap64 (sumL l - 1) = sumL (rsTake l i) := by rw [hsum]; exact w64 (by omega) (by omega)
    have c4 : own.length < 17592186044416 := by omega
    have c6 : sumL l > 0 := by omega
    refine ⟨a1, a2, fun r hr => a3 r ?_⟩
    rw [← hx] at hr
    apply Ev.succ
    simp only [spec_ReserveSlots.l2]
    refine Ev.cond (fun _ => ?_) (fun h' => absurd c6 h')
    rw [decide_eq_true hc.2]
    apply Ev.succ
    simp only [spec_ReserveSlots.j4, e1, e4, e5, Int.toNat_natCast]
    refine Ev.cond (fun _ => ?_) (fun h' => absurd (by trivial) h')
    refine Ev.cond (fun _ => ?_) (fun h' => absurd c2 h')
    refine Ev.cond (fun _ => ?_) (fun h' => absurd c3 h')
    refine Ev.cond (fun _ => ?_) (fun h' => absurd hc.1 h')
    refine Ev.cond (fun _ => ?_) (fun h' => absurd c4 h')
    exact Ev.cond (fun h' => absurd h' c5) (fun _ => hr)
  · refine ⟨a1, a2, fun r hr => a3 r ?_⟩
    by_cases hs : sumL l > 0 ∧ (own.length : Int) < f
    · have c7 : ¬ rd l (i : Int) > 0 := fun h => hc ⟨h, hs.2⟩
      rw [← hx] at hr
      apply Ev.succ
      simp only [spec_ReserveSlots.l2]
      refine Ev.cond (fun _ => ?_) (fun h' => absurd hs.1 h')
      rw [decide_eq_true hs.2]
      apply Ev.succ
      simp only [spec_ReserveSlots.j4, e5, Int.toNat_natCast]
      refine Ev.cond (fun _ => ?_) (fun h' => absurd (by trivial) h')
      refine Ev.cond (fun _ => ?_) (fun h' => absurd c2 h')
      refine Ev.cond (fun _ => ?_) (fun h' => absurd c3 h')
      refine Ev.cond (fun h' => absurd h' c7) (fun _ => ?_)
      exact Ev.cond (fun h' => absurd h' c5) (fun _ => hr)
    · exact (Ss_stop a2 hs).2 ((Ss_stop a2 hs).1 hr)
theorem SR_run {xs : List Int} {f : Int} (hf : 1 ≤ f ∧ f ≤ 20) (hN : 1 ≤ xs.length ∧ xs.length ≤ 12) (hx : ∀ j : Nat, j < xs.length → 0 ≤ rd xs (j : Int) ∧ rd xs (j : Int) ≤ 1000) :
    ∃ r : List (List Int) × Bool, r.1.length ≤ 300 ∧ (∀ y ∈ r.1, y.length ≤ 20) ∧ Ev (fun k => spec_ReserveSlots.l1 k xs f xs (sumL xs) []) r ∧ Ev (fun k => impl_ReserveSlots.l0 k f xs []) r := by
  have H : RsOK xs.length xs := ⟨rfl, hx⟩
  have hnn := sumL_nonneg xs H.nn
  obtain ⟨l', out, g1, ⟨z1, z2⟩, g3, g4⟩ := rs_l0 hN hf (SsP xs f xs.length) (SsZ xs f) (SsP_step xs hf hN rfl) (fun l out own g => by
      obtain ⟨a1, a2, a3⟩ := g
      refine ⟨a1, a2, fun r hr => a3 r ?_⟩
      rw [Nat.mod_self]
      rw [Nat.zero_mod] at hr
      exact hr)
    (fun l out H2 hm ho z => by
      obtain ⟨a1, a3⟩ := z
      have hs : sumL l > 0 := by
        have h1 := sumL_ge l H2.nn _ (maxL_mem (l := l) (by rw [H2.ll]; omega))
        omega
      have c3 : ¬ (out.length : Int) = 300 := by omega
      refine ⟨a1, by omega, fun r hr => a3 r ?_⟩
      rw [Nat.zero_mod] at hr
      apply Ev.succ
      simp only [spec_ReserveSlots.l1]
      refine Ev.cond (fun _ => ?_) (fun h' => absurd hs h')
      exact Ev.cond (fun h' => absurd h' c3) (fun _ => hr))
    (fun l out own H2 h1 h2 h3 g => by
      obtain ⟨a1, a2, a3⟩ := g
      refine ⟨fun y hy => ?_, fun r hr => a3 r ?_⟩
      · rcases List.mem_append.1 hy with hy | hy
        · exact a1 y hy
        · rw [List.mem_singleton.1 hy]; omega
      · refine (Ss_stop a2 (fun hc => ?_)).2 hr
        rcases h3 with h3 | h3
        · omega
        · have hz := rs_zero H2 h3
          have h4 := sumL_le l 0 (all_rd (fun j hj => by rw [hz j (by rw [← H2.ll]; exact hj)]; exact Int.le_refl _))
          omega)
    (sumL xs).toNat xs [] (by omega) (by simp) H ⟨fun y hy => absurd hy (by simp), fun r hr => hr⟩
  rcases g4 with ⟨k1, k2⟩ | ⟨k1, k2, k3⟩
  · refine ⟨(out, true), g3, z1, z2 _ ?_, k2⟩
    have hz := rs_zero g1 k1
    have h4 := sumL_le l' 0 (all_rd (fun j hj => by rw [hz j (by rw [← g1.ll]; exact hj)]; exact Int.le_refl _))
    have c1 : ¬ sumL l' > 0 := by omega
    apply Ev.succ
    simp only [spec_ReserveSlots.l1]
    exact Ev.cond (fun h' => absurd h' c1) (fun _ => Ev.now _)
  · refine ⟨(([] : List (List Int)), false), by simp, fun y hy => absurd hy (by simp), z2 _ ?_, k3⟩
    have hs : sumL l' > 0 := by
      have h1 := sumL_ge l' g1.nn _ (maxL_mem (l := l') (by rw [g1.ll]; omega))
      omega
    have c3 : (out.length : Int) = 300 := by omega
    apply Ev.succ
    simp only [spec_ReserveSlots.l1]
    refine Ev.cond (fun _ => ?_) (fun h' => absurd hs h')
    exact Ev.cond (fun _ => Ev.now _) (fun h' => absurd c3 h')
theorem SR_sum {xs : List Int} {f : Int} (hN : xs.length ≤ 12) (hx : ∀ j : Nat, j < xs.length → 0 ≤ rd xs (j : Int) ∧ rd xs (j : Int) ≤ 1000) {r : List (List Int) × Bool} (h : Ev (fun k => spec_ReserveSlots.l1 k xs f xs (sumL xs) []) r) :
    ∀ (d n : Nat) (s : Int), n + d = xs.length → 0 ≤ s → s ≤ 1000 * (n : Int) → s + sumL (xs.drop n) = sumL xs → Ev (fun k => spec_ReserveSlots.l0 k xs f xs s (n : Int)) r := by
  intro d
  induction d with
  | zero =>
    intro n s hn h0 h1 hs
    have c1 : ¬ (n : Int) < (xs.length : Int) := by omega
    rw [List.drop_eq_nil_of_le (by omega)] at hs
    simp only [sumL, Int.add_zero] at hs
    rw [hs]
    apply Ev.succ
    simp only [spec_ReserveSlots.l0]
    exact Ev.cond (fun h' => absurd h' c1) (fun _ => h)
  | succ d ih =>
    intro n s hn h0 h1 hs
    have hnx : n < xs.length := by omega
    have c1 : (n : Int) < (xs.length : Int) := by omega
    have c2 : (0 : Int) ≤ (n : Int) := by omega
    have hr := hx n hnx
    rw [drop_rd hnx] at hs
    simp only [sumL] at hs
    have e1 : wrap64 (s + rd xs (n : Int)) = s + rd xs (n : Int) := w64 (by omega) (by omega)
    apply Ev.succ
    simp only [spec_ReserveSlots.l0, e1, w64_succ (show n < 9223372036854775807 by omega)]
    refine Ev.cond (fun _ => ?_) (fun h' => absurd c1 h')
    exact Ev.cond (fun _ => ih (n + 1) _ (by omega) (by omega) (by omega) (by omega)) (fun h' => absurd c2 h')
theorem SR_ev (xs : List Int) (f : Int) (hn : xs.length ≤ 1099511627776) : ∃ r : List (List Int) × Bool, r.1.length ≤ 300 ∧ (∀ y ∈ r.1, y.length ≤ 20) ∧ Ev (fun k => spec_ReserveSlots.f k xs f) r ∧ Ev (fun k => impl_ReserveSlots.f k xs f) r := by
  have s0 := l09Needs_ev xs hn
  have i0 := areNeeds_ev xs hn
  have n1 : Ev (fun k => spec_ReserveSlots.j0 k xs f true) (([] : List (List Int)), false) := by
    apply Ev.succ
    simp only [spec_ReserveSlots.j0]
    exact Ev.cond (fun _ => Ev.now _) (fun h' => absurd (by trivial) h')
  have n2 : Ev (fun k => impl_ReserveSlots.j0 k xs f true) (([] : List (List Int)), false) := by
    apply Ev.succ
    simp only [impl_ReserveSlots.j0]
    exact Ev.cond (fun _ => Ev.now _) (fun h' => absurd (by trivial) h')
  have hW : spec_l09Window.f f = some (decide (1 ≤ f ∧ f ≤ 20)) := by
    unfold spec_l09Window.f
    rw [l00In_eq]; rfl
  have hI : impl_isWindow.f f = some (decide (1 ≤ f ∧ f ≤ 20)) := by
    unfold impl_isWindow.f
    rw [within_eq]; rfl
  by_cases hb : (inAll 0 1000 xs && decide (1 ≤ (xs.length : Int) ∧ (xs.length : Int) ≤ 12)) = true
  · rw [hb] at s0 i0
    rw [Bool.and_eq_true] at hb
    have hl := of_decide_eq_true hb.2
    have hx : ∀ j : Nat, j < xs.length → 0 ≤ rd xs (j : Int) ∧ rd xs (j : Int) ≤ 1000 := fun j hj => inAll_mem hb.1 _ (rd_mem hj)
    by_cases hh : 1 ≤ f ∧ f ≤ 20
    · obtain ⟨r, r1, r2, r3, r4⟩ := SR_run hh (by omega) hx
      refine ⟨r, r1, r2, ?_, ?_⟩
      · unfold spec_ReserveSlots.f
        refine Ev.bind s0 ?_
        refine Ev.cond (fun _ => ?_) (fun h' => absurd (by trivial) h')
        refine Ev.bind (Ev.const hW) ?_
        rw [decide_eq_true hh]
        apply Ev.succ
        simp only [spec_ReserveSlots.j0]
        refine Ev.cond (fun h' => absurd h' (by decide)) (fun _ => ?_)
        have e0 : spec_l00Own.f xs = some xs := by
          unfold spec_l00Own.f
          rw [Option.bind_some, List.nil_append, if_pos (by simp; omega)]
        refine Ev.bind (Ev.const e0) ?_
        exact SR_sum (by omega) hx r3 xs.length 0 0 (by omega) (by omega) (by omega) (by rw [List.drop_zero]; omega)
      · unfold impl_ReserveSlots.f
        refine Ev.bind i0 ?_
        refine Ev.cond (fun _ => ?_) (fun h' => absurd (by trivial) h')
        refine Ev.bind (Ev.const hI) ?_
        rw [decide_eq_true hh]
        apply Ev.succ
        simp only [impl_ReserveSlots.j0]
        refine Ev.cond (fun h' => absurd h' (by decide)) (fun _ => ?_)
        have e0 : slices_Clone_int64_int64.f xs = some xs := by
          unfold slices_Clone_int64_int64.f
          rw [if_pos (by omega)]
        exact Ev.bind (Ev.const e0) r4
    · refine ⟨(([] : List (List Int)), false), by simp, fun y hy => absurd hy (by simp), ?_, ?_⟩
      · unfold spec_ReserveSlots.f
        refine Ev.bind s0 ?_
        refine Ev.cond (fun _ => ?_) (fun h' => absurd (by trivial) h')
        refine Ev.bind (Ev.const hW) ?_
        rw [decide_eq_false hh]
        exact n1
      · unfold impl_ReserveSlots.f
        refine Ev.bind i0 ?_
        refine Ev.cond (fun _ => ?_) (fun h' => absurd (by trivial) h')
        refine Ev.bind (Ev.const hI) ?_
        rw [decide_eq_false hh]
        exact n2
  · have hb' := eq_false_of_ne_true hb
    rw [hb'] at s0 i0
    refine ⟨(([] : List (List Int)), false), by simp, fun y hy => absurd hy (by simp), ?_, ?_⟩
    · unfold spec_ReserveSlots.f
      refine Ev.bind s0 ?_
      exact Ev.cond (fun h' => absurd h' (by decide)) (fun _ => n1)
    · unfold impl_ReserveSlots.f
      refine Ev.bind i0 ?_
      exact Ev.cond (fun h' => absurd h' (by decide)) (fun _ => n2)
theorem FnExactReserveSlots : laws_FnExactReserveSlots.Pure := by
  intro xs f h0 h1 hx hf
  refine Ev.rounds ?_
  unfold laws_FnExactReserveSlots.f
  by_cases hl : (xs.length : Int) > 1048576
  · exact Ev.cond (fun _ => Ev.now _) (fun h' => absurd hl h')
  have hn : xs.length ≤ 1099511627776 := by omega
  obtain ⟨r, r1, r2, r3, r4⟩ := SR_ev xs f hn
  have hsz := szR_le r.1 20 r2
  have hsz2 : szR r.1 ≤ 6000 := by omega
  refine Ev.cond (fun h' => absurd h' hl) (fun _ => ?_)
  refine Ev.bind (toInt64S_ev xs hn) (Ev.bind r3 (Ev.bind r4 (Ev.bind (eqSS_same r.1 (by omega) (fun x hx => by have := r2 x hx; omega)) (Ev.bind (eqInt64S_same xs hn) ?_))))
  refine Ev.bind (markInt64S_ev xs 1 (by omega) (by omega) hn) (Ev.bind (markSS_ev r.1 1 (by omega) (by omega) (by omega)) (Ev.bind (heldSS_ev r.1 1 (by omega) (by omega) (by omega)) ?_))
  exact Ev.cond (fun _ => Ev.now _) (fun h' => absurd ⟨rfl, rfl, rfl, by dsimp only; omega, by omega, rfl⟩ h')

end Go.Proofs.Ytbgiddnffchnpaa.Pure
