/- For every kind of line and every count the program's WorstFlat answers what the reference's does. -/
import Derived.Test.YtbgiddnffchnpaaQFnExactWorstFlatx2
import Derived.Test.YtbgiddnffchnpaaBase
import Derived.Test.YtbgiddnffchnpaaLevels
namespace Go.Proofs.Ytbgiddnffchnpaa.Pure
open Go.RowKit Go.Proofs.Ytbgiddnffchnpaa.QFnExactWorstFlat Go.Proofs.Ytbgiddnffchnpaa.Base Go.Proofs.YtbgiddnffchnpaaW.PrintWords Go.Proofs.YtbgiddnffchnpaaW.PrintLast Go.Proofs.YtbgiddnffchnpaaW.PrintMore
open Go.Proofs.Ytbgiddnffchnpaa.Levels
set_option linter.unusedVariables false
set_option linter.unusedSimpArgs false

/-! within -/
theorem within_eq (a b c : Int) : impl_within.f a b c = some (decide (b ≤ a ∧ a ≤ c)) := by
  unfold impl_within.f
  by_cases h : b ≤ a
  · simp [h, ge_iff_le]
  · simp [h, ge_iff_le]

/-! l00In -/
theorem l00In_eq (a b c : Int) : spec_l00In.f a b c = some (decide (b ≤ a ∧ a ≤ c)) := by
  unfold spec_l00In.f
  by_cases h : b ≤ a
  · simp [h, ge_iff_le]
  · simp [h, ge_iff_le]

/-! lineKinds -/
def kindB (kind : Int) : Bool := decide (0 ≤ kind ∧ kind ≤ 5)
def pairB (kind : Int) : Bool := decide (kind = 2 ∨ kind = 3)
def perN (kind : Int) : Int := if kind = 2 ∨ kind = 3 then 2 else 1
theorem kinds_of {kind : Int} (h : kindB kind = true) : kind = 0 ∨ kind = 1 ∨ kind = 2 ∨ kind = 3 ∨ kind = 4 ∨ kind = 5 := by
  have h := of_decide_eq_true h
  omega
theorem isLine_eq (kind : Int) : impl_isLine.f kind = some (kindB kind) := by
  unfold impl_isLine.f kindB
  rw [within_eq]; rfl
theorem l10Kind_eq (kind : Int) : spec_l10Kind.f kind = some (kindB kind) := by
  unfold spec_l10Kind.f kindB
  rw [l00In_eq]; rfl
theorem isPaired_eq (kind : Int) : impl_isPaired.f kind = some (pairB kind) := by
  unfold impl_isPaired.f pairB
  by_cases h : kind = 2
  · simp [h]
  · by_cases h3 : kind = 3
    · simp [h3]
    · simp [h, h3]

/-! lineBefore -/
def beforeN (kind : Int) : Int := if kind = 1 ∨ kind = 3 then -1 else 0
theorem l10Before_eq (kind : Int) : spec_l10Before.f kind = some (beforeN kind) := by
  unfold spec_l10Before.f beforeN
  by_cases h : kind = 1
  · simp [h]
  · by_cases h3 : kind = 3
    · simp [h3]
    · simp [h, h3]

/-! l10Levels -/
def circL : List Int := [0, 1, 0, -1]
/-- What the reference holds of the state. -/
def sHold (kind s last mark at_ : Int) : Prop := ((kind = 1 ∨ kind = 3) → last = s) ∧ (kind = 4 → mark = s) ∧ (kind = 5 → at_ = s)
theorem l10Levels_step (kind : Int) (t : ByteArray) (ht : t.size ≤ 1048576) (n : Nat) (hl : n < t.size) (c : List Int) (s last mark at_ : Int) (hs : sOK kind s) (hh : sHold kind s last mark at_) (hc : c.length ≤ 2 * n) (r : List Int)
    (h : ∀ last2 mark2 at2, sHold kind (lvNext kind s (t[n] == 49)) last2 mark2 at2 → Ev (fun k => spec_l10Levels.l0 k kind t (c ++ lvOut kind s (t[n] == 49)) last2 mark2 at2 circL ((n + 1 : Nat) : Int)) r) :
    Ev (fun k => spec_l10Levels.l0 k kind t c last mark at_ circL (n : Int)) r := by
  have c1 : (n : Int) < (t.size : Int) := by omega
  have c2 : (0 : Int) ≤ (n : Int) := by omega
  have c3 : c.length < 17592186044416 := by omega
  have hbt := bt_nat t n hl
  have hw := w64_succ (show n < 9223372036854775807 by omega)
  have hb : bt t (n : Int) = 49 ↔ (t[n] == 49) = true := by
    rw [hbt, beq_iff_eq]
    constructor
    · intro h'; exact UInt8.toNat_inj.1 (by show (t[n]).toNat = 49; omega)
    · intro h'; rw [h']; rfl
  generalize (t[n] == 49) = b at h hb
  apply Ev.succ
  simp only [spec_l10Levels.l0]
  refine Ev.cond (fun _ => ?_) (fun h' => absurd c1 h')
  refine Ev.cond (fun _ => ?_) (fun h' => absurd c2 h')
  rw [hw]
  rcases hs with ⟨rfl, rfl⟩ | ⟨rfl, hs⟩ | ⟨rfl, rfl⟩ | ⟨rfl, hs⟩ | ⟨rfl, hs⟩ | ⟨rfl, hs⟩
  · skip
    refine Ev.cond (fun _ => ?_) (fun h' => absurd (by decide) h')
    cases b
    · refine Ev.cond (fun h' => absurd (hb.1 h') (by decide)) (fun _ => ?_)
      exact Ev.cond (fun _ => h _ _ _ ⟨fun h' => absurd h' (by decide), fun h' => absurd h' (by decide), fun h' => absurd h' (by decide)⟩) (fun h' => absurd c3 h')
    · refine Ev.cond (fun _ => ?_) (fun h' => absurd (hb.2 rfl) h')
      exact Ev.cond (fun _ => h _ _ _ ⟨fun h' => absurd h' (by decide), fun h' => absurd h' (by decide), fun h' => absurd h' (by decide)⟩) (fun h' => absurd c3 h')
  · obtain rfl := hh.1 (by decide)
    have hwn : wrap64 (-last) = -last := w64 (by omega) (by omega)
    refine Ev.cond (fun h' => absurd h' (by decide)) (fun _ => ?_)
    refine Ev.cond (fun _ => ?_) (fun h' => absurd (by decide) h')
    cases b
    · refine Ev.cond (fun h' => absurd (hb.1 h') (by decide)) (fun _ => ?_)
      (try rw [hwn])
      exact Ev.cond (fun _ => h _ _ _ ⟨fun h' => rfl, fun h' => absurd h' (by decide), fun h' => absurd h' (by decide)⟩) (fun h' => absurd c3 h')
    · refine Ev.cond (fun _ => ?_) (fun h' => absurd (hb.2 rfl) h')
      (try rw [hwn])
      exact Ev.cond (fun _ => h _ _ _ ⟨fun h' => rfl, fun h' => absurd h' (by decide), fun h' => absurd h' (by decide)⟩) (fun h' => absurd c3 h')
  · skip
    refine Ev.cond (fun h' => absurd h' (by decide)) (fun _ => ?_)
    refine Ev.cond (fun h' => absurd h' (by decide)) (fun _ => ?_)
    refine Ev.cond (fun _ => ?_) (fun h' => absurd (by decide) h')
    cases b
    · refine Ev.cond (fun h' => absurd (hb.1 h') (by decide)) (fun _ => ?_)
      refine Ev.cond (fun _ => ?_) (fun h' => absurd c3 h')
      refine Ev.bind (Ev.now _) ?_
      refine Ev.cond (fun _ => ?_) (fun h' => absurd (by rw [List.length_append]; simp only [List.length_cons, List.length_nil]; omega) h')
      rw [List.append_assoc]
      exact h _ _ _ ⟨fun h' => absurd h' (by decide), fun h' => absurd h' (by decide), fun h' => absurd h' (by decide)⟩
    · refine Ev.cond (fun _ => ?_) (fun h' => absurd (hb.2 rfl) h')
      refine Ev.cond (fun _ => ?_) (fun h' => absurd c3 h')
      refine Ev.bind (Ev.now _) ?_
      refine Ev.cond (fun _ => ?_) (fun h' => absurd (by rw [List.length_append]; simp only [List.length_cons, List.length_nil]; omega) h')
      rw [List.append_assoc]
      exact h _ _ _ ⟨fun h' => absurd h' (by decide), fun h' => absurd h' (by decide), fun h' => absurd h' (by decide)⟩
  · obtain rfl := hh.1 (by decide)
    have hwn : wrap64 (-last) = -last := w64 (by omega) (by omega)
    have hwn2 : wrap64 (- -last) = last := by rw [w64 (by omega) (by omega)]; omega
    refine Ev.cond (fun h' => absurd h' (by decide)) (fun _ => ?_)
    refine Ev.cond (fun h' => absurd h' (by decide)) (fun _ => ?_)
    refine Ev.cond (fun h' => absurd h' (by decide)) (fun _ => ?_)
    refine Ev.cond (fun _ => ?_) (fun h' => absurd (by decide) h')
    cases b
    · refine Ev.cond (fun h' => absurd (hb.1 h') (by decide)) (fun _ => ?_)
      (try rw [hwn]); (try rw [hwn2])
      refine Ev.cond (fun _ => ?_) (fun h' => absurd c3 h')
      refine Ev.bind (Ev.now _) ?_
      refine Ev.cond (fun _ => ?_) (fun h' => absurd (by rw [List.length_append]; simp only [List.length_cons, List.length_nil]; omega) h')
      rw [List.append_assoc]
      exact h _ _ _ ⟨fun h' => rfl, fun h' => absurd h' (by decide), fun h' => absurd h' (by decide)⟩
    · refine Ev.cond (fun _ => ?_) (fun h' => absurd (hb.2 rfl) h')
      (try rw [hwn]); (try rw [hwn2])
      refine Ev.cond (fun _ => ?_) (fun h' => absurd c3 h')
      refine Ev.bind (Ev.now _) ?_
      refine Ev.cond (fun _ => ?_) (fun h' => absurd (by rw [List.length_append]; simp only [List.length_cons, List.length_nil]; omega) h')
      rw [List.append_assoc]
      exact h _ _ _ ⟨fun h' => rfl, fun h' => absurd h' (by decide), fun h' => absurd h' (by decide)⟩
  · obtain rfl := hh.2.1 rfl
    have hwn : wrap64 (-mark) = -mark := w64 (by omega) (by omega)
    refine Ev.cond (fun h' => absurd h' (by decide)) (fun _ => ?_)
    refine Ev.cond (fun h' => absurd h' (by decide)) (fun _ => ?_)
    refine Ev.cond (fun h' => absurd h' (by decide)) (fun _ => ?_)
    refine Ev.cond (fun h' => absurd h' (by decide)) (fun _ => ?_)
    refine Ev.cond (fun _ => ?_) (fun h' => absurd (by decide) h')
    cases b
    · refine Ev.cond (fun h' => absurd (hb.1 h') (by decide)) (fun _ => ?_)
      (try rw [hwn])
      exact Ev.cond (fun _ => h _ _ _ ⟨fun h' => absurd h' (by decide), fun h' => rfl, fun h' => absurd h' (by decide)⟩) (fun h' => absurd c3 h')
    · refine Ev.cond (fun _ => ?_) (fun h' => absurd (hb.2 rfl) h')
      (try rw [hwn])
      exact Ev.cond (fun _ => h _ _ _ ⟨fun h' => absurd h' (by decide), fun h' => rfl, fun h' => absurd h' (by decide)⟩) (fun h' => absurd c3 h')
  · obtain rfl := hh.2.2 rfl
    refine Ev.cond (fun h' => absurd h' (by decide)) (fun _ => ?_)
    refine Ev.cond (fun h' => absurd h' (by decide)) (fun _ => ?_)
    refine Ev.cond (fun h' => absurd h' (by decide)) (fun _ => ?_)
    refine Ev.cond (fun h' => absurd h' (by decide)) (fun _ => ?_)
    refine Ev.cond (fun h' => absurd h' (by decide)) (fun _ => ?_)
    refine Ev.cond (fun _ => ?_) (fun h' => absurd (by decide) h')
    cases b
    · refine Ev.cond (fun h' => absurd (hb.1 h') (by decide)) (fun _ => ?_)
      rcases hs with rfl | rfl | rfl | rfl
      · refine Ev.cond (fun _ => ?_) (fun h' => absurd (by decide) h')
        refine Ev.cond (fun _ => ?_) (fun h' => absurd (by decide) h')
        exact Ev.cond (fun _ => h _ _ 0 ⟨fun h' => absurd h' (by decide), fun h' => absurd h' (by decide), fun _ => by decide⟩) (fun h' => absurd c3 h')
      · refine Ev.cond (fun _ => ?_) (fun h' => absurd (by decide) h')
        refine Ev.cond (fun _ => ?_) (fun h' => absurd (by decide) h')
        exact Ev.cond (fun _ => h _ _ 1 ⟨fun h' => absurd h' (by decide), fun h' => absurd h' (by decide), fun _ => by decide⟩) (fun h' => absurd c3 h')
      · refine Ev.cond (fun _ => ?_) (fun h' => absurd (by decide) h')
        refine Ev.cond (fun _ => ?_) (fun h' => absurd (by decide) h')
        exact Ev.cond (fun _ => h _ _ 2 ⟨fun h' => absurd h' (by decide), fun h' => absurd h' (by decide), fun _ => by decide⟩) (fun h' => absurd c3 h')
      · refine Ev.cond (fun _ => ?_) (fun h' => absurd (by decide) h')
        refine Ev.cond (fun _ => ?_) (fun h' => absurd (by decide) h')
        exact Ev.cond (fun _ => h _ _ 3 ⟨fun h' => absurd h' (by decide), fun h' => absurd h' (by decide), fun _ => by decide⟩) (fun h' => absurd c3 h')
    · refine Ev.cond (fun _ => ?_) (fun h' => absurd (hb.2 rfl) h')
      rcases hs with rfl | rfl | rfl | rfl
      · have ht : Int.tmod (wrap64 (0 + 1)) 4 = 1 := by decide +kernel
        rw [ht]
        refine Ev.cond (fun _ => ?_) (fun h' => absurd (by decide) h')
        refine Ev.cond (fun _ => ?_) (fun h' => absurd (by decide) h')
        exact Ev.cond (fun _ => h _ _ 1 ⟨fun h' => absurd h' (by decide), fun h' => absurd h' (by decide), fun _ => by decide⟩) (fun h' => absurd c3 h')
      · have ht : Int.tmod (wrap64 (1 + 1)) 4 = 2 := by decide +kernel
        rw [ht]
        refine Ev.cond (fun _ => ?_) (fun h' => absurd (by decide) h')
        refine Ev.cond (fun _ => ?_) (fun h' => absurd (by decide) h')
        exact Ev.cond (fun _ => h _ _ 2 ⟨fun h' => absurd h' (by decide), fun h' => absurd h' (by decide), fun _ => by decide⟩) (fun h' => absurd c3 h')
      · have ht : Int.tmod (wrap64 (2 + 1)) 4 = 3 := by decide +kernel
        rw [ht]
        refine Ev.cond (fun _ => ?_) (fun h' => absurd (by decide) h')
        refine Ev.cond (fun _ => ?_) (fun h' => absurd (by decide) h')
        exact Ev.cond (fun _ => h _ _ 3 ⟨fun h' => absurd h' (by decide), fun h' => absurd h' (by decide), fun _ => by decide⟩) (fun h' => absurd c3 h')
      · have ht : Int.tmod (wrap64 (3 + 1)) 4 = 0 := by decide +kernel
        rw [ht]
        refine Ev.cond (fun _ => ?_) (fun h' => absurd (by decide) h')
        refine Ev.cond (fun _ => ?_) (fun h' => absurd (by decide) h')
        exact Ev.cond (fun _ => h _ _ 0 ⟨fun h' => absurd h' (by decide), fun h' => absurd h' (by decide), fun _ => by decide⟩) (fun h' => absurd c3 h')
theorem l10Levels_l0 (kind : Int) (t : ByteArray) (ht : t.size ≤ 1048576) : ∀ (d n : Nat) (c : List Int) (s last mark at_ : Int), sOK kind s → sHold kind s last mark at_ → c.length ≤ 2 * n → n + d = t.size →
    Ev (fun k => spec_l10Levels.l0 k kind t c last mark at_ circL (n : Int)) (c ++ lvGo kind s (t.data.toList.drop n)) := by
  intro d
  induction d with
  | zero =>
    intro n c s last mark at_ hs hh hc h
    have c1 : ¬ ((n : Int) < (t.size : Int)) := by omega
    have c2 : t.data.toList.drop n = [] := List.drop_eq_nil_of_le (by rw [size_data]; omega)
    apply Ev.succ
    simp only [spec_l10Levels.l0]
    rw [c2, lvGo, List.append_nil]
    exact Ev.cond (fun h' => absurd h' c1) (fun _ => Ev.now _)
  | succ d ih =>
    intro n c s last mark at_ hs hh hc h
    have hl : n < t.size := by omega
    have hlen := lvOut_len hs (t[n] == 49)
    have hlen2 : (lvOut kind s (t[n] == 49)).length ≤ 2 := by rw [hlen]; split <;> omega
    rw [drop_data hl, lvGo, ← List.append_assoc]
    refine l10Levels_step kind t ht n hl c s last mark at_ hs hh hc _ (fun last2 mark2 at2 h2 => ?_)
    exact ih (n + 1) (c ++ lvOut kind s (t[n] == 49)) (lvNext kind s (t[n] == 49)) last2 mark2 at2 (sOK_next hs _) h2 (by rw [List.length_append]; omega) (by omega)
theorem l10Levels_ev (kind : Int) (hk : kindB kind = true) (t : ByteArray) (ht : t.size ≤ 1048576) : Ev (fun k => spec_l10Levels.f k kind t) (levelsN kind t.data.toList) := by
  unfold spec_l10Levels.f
  have hk' := kinds_of hk
  refine Ev.bind (Ev.const (l10Before_eq kind)) ?_
  have h := l10Levels_l0 kind t ht t.size 0 [] (lvStart kind) (beforeN kind) 1 0 (sOK_start hk') (by rcases hk' with rfl | rfl | rfl | rfl | rfl | rfl <;> exact ⟨by decide, by decide, by decide⟩) (by simp) (by omega)
  exact h

/-! l00Max -/
theorem l00Max_eq (a b : Int) : spec_l00Max.f a b = some (max a b) := by
  unfold spec_l00Max.f
  by_cases h : a > b
  · rw [if_pos h]; congr 1; omega
  · rw [if_neg h]; congr 1; omega

/-! l10Flat -/
theorem l10Flat_l0 (xs : List Int) (hn : xs.length ≤ 1099511627776) : ∀ (d n : Nat) (run best : Int), 1 ≤ n → n + d = xs.length → 0 ≤ run → run ≤ n →
    Ev (fun k => spec_l10Flat.l0 k xs best run (n : Int)) (flatR (rd xs ((n : Int) - 1)) run best (xs.drop n)) := by
  intro d
  induction d with
  | zero =>
    intro n run best hp h hr hr2
    have c1 : ¬ ((n : Int) < (xs.length : Int)) := by omega
    have c2 : xs.drop n = [] := List.drop_eq_nil_of_le (by omega)
    apply Ev.succ
    simp only [spec_l10Flat.l0]
    rw [c2]
    exact Ev.cond (fun h' => absurd h' c1) (fun _ => Ev.now _)
  | succ d ih =>
    intro n run best hp h hr hr2
    have c1 : (n : Int) < (xs.length : Int) := by omega
    have c2 : (0 : Int) ≤ (n : Int) := by omega
    have c3 : (n : Int) > 0 := by omega
    have c4 : wrap64 ((n : Int) - 1) = (n : Int) - 1 := w64 (by omega) (by omega)
    have c5 : (0 : Int) ≤ (n : Int) - 1 := by omega
    have c6 : (n : Int) - 1 < (xs.length : Int) := by omega
    have hw := w64_succ (show n < 9223372036854775807 by omega)
    have hw2 : wrap64 (run + 1) = run + 1 := w64 (by omega) (by omega)
    have e : ((n + 1 : Nat) : Int) - 1 = (n : Int) := by omega
    rw [drop_rd (show n < xs.length by omega)]
    simp only [flatR]
    apply Ev.succ
    simp only [spec_l10Flat.l0]
    refine Ev.cond (fun _ => ?_) (fun h' => absurd c1 h')
    refine Ev.cond (fun _ => ?_) (fun h' => absurd c3 h')
    refine Ev.cond (fun _ => ?_) (fun h' => absurd c2 h')
    rw [c4, hw, hw2]
    refine Ev.cond (fun _ => ?_) (fun h' => absurd c5 h')
    refine Ev.cond (fun _ => ?_) (fun h' => absurd c6 h')
    by_cases hc : rd xs (n : Int) = rd xs ((n : Int) - 1)
    · refine Ev.cond (fun _ => ?_) (fun h' => absurd hc h')
      rw [if_pos hc]
      refine Ev.bind (Ev.const (l00Max_eq _ _)) ?_
      have h3 := ih (n + 1) (run + 1) (max best (run + 1)) (by omega) (by omega) (by omega) (by omega)
      rw [e] at h3
      exact h3
    · refine Ev.cond (fun h' => absurd h' hc) (fun _ => ?_)
      rw [if_neg hc]
      have h3 := ih (n + 1) 1 (max best 1) (by omega) (by omega) (by omega) (by omega)
      rw [e] at h3
      exact Ev.bind (Ev.const (l00Max_eq best 1)) h3
theorem l10Flat_ev (xs : List Int) (hn : xs.length ≤ 1099511627776) : Ev (fun k => spec_l10Flat.f k xs) (flatN xs) := by
  unfold spec_l10Flat.f
  apply Ev.succ
  simp only [spec_l10Flat.l0]
  cases xs with
  | nil => exact Ev.cond (fun h' => absurd h' (by simp)) (fun _ => Ev.now _)
  | cons x r =>
    have hl : (x :: r).length = r.length + 1 := List.length_cons
    have c1 : (0 : Int) < ((x :: r).length : Int) := by omega
    refine Ev.cond (fun _ => ?_) (fun h' => absurd c1 h')
    refine Ev.cond (fun h' => absurd h' (by decide)) (fun _ => ?_)
    have hw : wrap64 (0 + 1) = 1 := by decide +kernel
    rw [hw]
    have h3 := l10Flat_l0 (x :: r) hn r.length 1 1 1 (by omega) (by omega) (by omega) (by omega)
    have hm : max (0 : Int) 1 = 1 := by decide
    refine Ev.bind (Ev.const (l00Max_eq 0 1)) ?_
    rw [hm]
    exact h3

/-! mxmn -/
theorem mx_eq (a b : Int) : mx a b = max a b := by unfold mx; split <;> omega
theorem mn_eq (a b : Int) : mn a b = min a b := by unfold mn; split <;> omega

theorem WF_two (kind : Int) (hk : kind = 2 ∨ kind = 3) (n : Nat) (hn : 1 ≤ n) :
    max (max (flatN (levelsN kind (List.replicate n 48))) (flatN (levelsN kind (List.replicate n 49)))) (flatN (levelsN kind (49 :: List.replicate (n - 1) 48))) = min (n : Int) 2 := by
  have hs : sOK kind (lvStart kind) := sOK_start (by omega)
  have a1 := flatN_pair (lvGo_pair hk (List.replicate n 48) hs)
  have a2 := flatN_pair (lvGo_pair hk (List.replicate n 49) hs)
  have a3 := flatN_pair (lvGo_pair hk (49 :: List.replicate (n - 1) 48) hs)
  by_cases h1 : n = 1
  · subst h1
    rcases hk with rfl | rfl <;> decide
  · obtain ⟨m, rfl⟩ : ∃ m, n = m + 2 := ⟨n - 2, by omega⟩
    have low : ∀ r : List Int, 2 ≤ flatN (-1 :: 1 :: 1 :: -1 :: r) := by
      intro r
      have := flatR_ge r (-1) 1 2
      have e : flatN (-1 :: 1 :: 1 :: -1 :: r) = flatR (-1) 1 2 r := by
        simp only [flatN, flatR]
        rfl
      rw [e]; exact this
    have hm : min ((m + 2 : Nat) : Int) 2 = 2 := by omega
    unfold levelsN
    rw [hm]
    rcases hk with rfl | rfl
    · have e : lvGo 2 (lvStart 2) (49 :: List.replicate (m + 2 - 1) 48) = -1 :: 1 :: 1 :: -1 :: lvGo 2 0 (List.replicate m 48) := by
        rw [show m + 2 - 1 = m + 1 from rfl, List.replicate_succ]; rfl
      have := low (lvGo 2 0 (List.replicate m 48))
      rw [← e] at this
      omega
    · have e : lvGo 3 (lvStart 3) (List.replicate (m + 2) 49) = -1 :: 1 :: 1 :: -1 :: lvGo 3 (-1) (List.replicate m 49) := by
        rw [List.replicate_succ, List.replicate_succ]; rfl
      have := low (lvGo 3 (-1) (List.replicate m 49))
      rw [← e] at this
      omega
theorem WF_one (kind : Int) (hk : kind = 0 ∨ kind = 1 ∨ kind = 4 ∨ kind = 5) (n : Nat) (hn : 1 ≤ n) :
    max (max (flatN (levelsN kind (List.replicate n 48))) (flatN (levelsN kind (List.replicate n 49)))) (flatN (levelsN kind (49 :: List.replicate (n - 1) 48))) = (n : Int) := by
  have hs : sOK kind (lvStart kind) := sOK_start (by omega)
  have hnp : ¬ (kind = 2 ∨ kind = 3) := by omega
  have len : ∀ l : List UInt8, l.length = n → flatN (levelsN kind l) ≤ n := by
    intro l hl
    have h1 := flatN_le (levelsN kind l)
    have h2 : (levelsN kind l).length = n := by
      unfold levelsN
      rw [lvGo_len l hs, if_neg hnp, hl, Nat.one_mul]
    omega
  have a2 := len (List.replicate n 49) (by simp)
  have a3 := len (49 :: List.replicate (n - 1) 48) (by simp; omega)
  have a1 : flatN (levelsN kind (List.replicate n 48)) = n := by
    unfold levelsN
    obtain ⟨v, hv⟩ := lvGo_zeros (kind := kind) (s := lvStart kind) n hnp
    rw [hv, flatN_const]
  omega
theorem bytes_snoc (a : ByteArray) (b : UInt8) : (a ++ (⟨#[b]⟩ : ByteArray)).data.toList = a.data.toList ++ [b] ∧ (a ++ (⟨#[b]⟩ : ByteArray)).size = a.size + 1 := by
  constructor
  · rw [ByteArray.data_append, Array.toList_append]
  · rw [ByteArray.size_append]; rfl
def WF_ans (kind count : Int) : Int × Bool := if kindB kind = true ∧ 1 ≤ count ∧ count ≤ 400 then ((if kind = 2 ∨ kind = 3 then min count 2 else count), true) else (0, false)
theorem WF_l0 (kind : Int) (hk : kindB kind = true) (N : Nat) (hN : 1 ≤ N) (hN2 : N ≤ 400) : ∀ (d n : Nat) (a b c : ByteArray), n + d = N → a.data.toList = List.replicate n 48 → b.data.toList = List.replicate n 49 → c.data.toList = 49 :: List.replicate (n - 1) 48 → a.size = n → b.size = n → c.size ≤ n + 1 →
    Ev (fun k => spec_WorstFlat.l0 k kind (N : Int) a b c (n : Int)) ((if kind = 2 ∨ kind = 3 then min (N : Int) 2 else (N : Int)), true) := by
  intro d
  induction d with
  | zero =>
    intro n a b c h ha hb hc sa sb sc
    obtain rfl : N = n := by omega
    have c1 : ¬ ((N : Int) < (N : Int)) := by omega
    have hs : sOK kind (lvStart kind) := sOK_start (kinds_of hk)
    have la := l10Levels_ev kind hk a (by omega)
    have lb := l10Levels_ev kind hk b (by omega)
    have lc := l10Levels_ev kind hk c (by omega)
    rw [ha] at la
    rw [hb] at lb
    rw [hc] at lc
    have bound : ∀ l : List UInt8, l.length ≤ 500 → (levelsN kind l).length ≤ 1099511627776 := by
      intro l hl
      unfold levelsN
      rw [lvGo_len l hs]
      split <;> omega
    have fa := l10Flat_ev _ (bound (List.replicate N 48) (by simp; omega))
    have fb := l10Flat_ev _ (bound (List.replicate N 49) (by simp; omega))
    have fc := l10Flat_ev _ (bound (49 :: List.replicate (N - 1) 48) (by simp; omega))
    have e : max (max (flatN (levelsN kind (List.replicate N 48))) (flatN (levelsN kind (List.replicate N 49)))) (flatN (levelsN kind (49 :: List.replicate (N - 1) 48))) = if kind = 2 ∨ kind = 3 then min (N : Int) 2 else (N : Int) := by
      by_cases hp : kind = 2 ∨ kind = 3
      · rw [if_pos hp]; exact WF_two kind hp N hN
      · rw [if_neg hp]; exact WF_one kind (by have := kinds_of hk; omega) N hN
    rw [← e]
    apply Ev.succ
    simp only [spec_WorstFlat.l0]
    refine Ev.cond (fun h' => absurd h' c1) (fun _ => ?_)
    exact Ev.bind la (Ev.bind fa (Ev.bind lb (Ev.bind fb (Ev.bind (Ev.const (l00Max_eq _ _)) (Ev.bind lc (Ev.bind fc (Ev.bind (Ev.const (l00Max_eq _ _)) (Ev.now _))))))))
  | succ d ih =>
    intro n a b c h ha hb hc sa sb sc
    have c1 : (n : Int) < (N : Int) := by omega
    have hw := w64_succ (show n < 9223372036854775807 by omega)
    have xa := bytes_snoc a 48
    have xb := bytes_snoc b 49
    have xc := bytes_snoc c 48
    have ea : (a ++ (⟨#[48]⟩ : ByteArray)).data.toList = List.replicate (n + 1) 48 := by rw [xa.1, ha, List.replicate_succ']
    have eb : (b ++ (⟨#[49]⟩ : ByteArray)).data.toList = List.replicate (n + 1) 49 := by rw [xb.1, hb, List.replicate_succ']
    apply Ev.succ
    simp only [spec_WorstFlat.l0]
    refine Ev.cond (fun _ => ?_) (fun h' => absurd c1 h')
    refine Ev.cond (fun _ => ?_) (fun h' => absurd (by omega) h')
    refine Ev.cond (fun _ => ?_) (fun h' => absurd (by omega) h')
    rw [hw]
    by_cases hp : (n : Int) > 0
    · refine Ev.cond (fun _ => ?_) (fun h' => absurd hp h')
      refine Ev.cond (fun _ => ?_) (fun h' => absurd (by omega) h')
      refine ih (n + 1) _ _ _ (by omega) ea eb ?_ (by omega) (by omega) (by omega)
      obtain ⟨m, rfl⟩ : ∃ m, n = m + 1 := ⟨n - 1, by omega⟩
      rw [xc.1, hc, Nat.add_sub_cancel, Nat.add_sub_cancel, List.cons_append, List.replicate_succ']
    · refine Ev.cond (fun h' => absurd h' hp) (fun _ => ?_)
      refine ih (n + 1) _ _ _ (by omega) ea eb ?_ (by omega) (by omega) (by omega)
      obtain rfl : n = 0 := by omega
      exact hc
theorem WF_spec (kind count : Int) : Ev (fun k => spec_WorstFlat.f k kind count) (WF_ans kind count) := by
  unfold spec_WorstFlat.f WF_ans
  refine Ev.bind (Ev.const (l10Kind_eq kind)) ?_
  by_cases h1 : kindB kind = true
  · refine Ev.cond (fun _ => ?_) (fun h' => absurd h1 h')
    refine Ev.bind (Ev.const (l00In_eq count 1 400)) ?_
    by_cases h2 : 1 ≤ count ∧ count ≤ 400
    · rw [decide_eq_true h2, if_pos ⟨h1, h2⟩]
      apply Ev.succ
      simp only [spec_WorstFlat.j0, Bool.not_true, Bool.false_eq_true, if_false]
      obtain ⟨N, rfl⟩ := Int.eq_ofNat_of_zero_le (show 0 ≤ count by omega)
      exact WF_l0 kind h1 N (by omega) (by omega) N 0 _ _ _ (by omega) rfl rfl rfl rfl rfl (by decide)
    · rw [decide_eq_false h2, if_neg (fun h => h2 h.2)]
      apply Ev.succ
      simp only [spec_WorstFlat.j0, Bool.not_false, if_true]
      exact Ev.now _
  · refine Ev.cond (fun h' => absurd h' h1) (fun _ => ?_)
    rw [if_neg (fun h => h1 h.1)]
    apply Ev.succ
    simp only [spec_WorstFlat.j0, if_true]
    exact Ev.now _
theorem WF_impl (kind count : Int) : Ev (fun k => impl_WorstFlat.f k kind count) (WF_ans kind count) := by
  unfold impl_WorstFlat.f WF_ans
  refine Ev.bind (Ev.const (isLine_eq kind)) ?_
  by_cases h1 : kindB kind = true
  · refine Ev.cond (fun _ => ?_) (fun h' => absurd h1 h')
    refine Ev.bind (Ev.const (within_eq count 1 400)) ?_
    by_cases h2 : 1 ≤ count ∧ count ≤ 400
    · rw [decide_eq_true h2, if_pos ⟨h1, h2⟩]
      apply Ev.succ
      simp only [impl_WorstFlat.j0, Bool.not_true, Bool.false_eq_true, if_false]
      refine Ev.bind (Ev.const (isPaired_eq kind)) ?_
      rw [mn_eq]
      by_cases hp : kind = 2 ∨ kind = 3
      · rw [if_pos hp]
        exact Ev.cond (fun _ => Ev.now _) (fun h' => absurd (decide_eq_true hp) h')
      · rw [if_neg hp]
        exact Ev.cond (fun h' => absurd (of_decide_eq_true h') hp) (fun _ => Ev.now _)
    · rw [decide_eq_false h2, if_neg (fun h => h2 h.2)]
      apply Ev.succ
      simp only [impl_WorstFlat.j0, Bool.not_false, if_true]
      exact Ev.now _
  · refine Ev.cond (fun h' => absurd h' h1) (fun _ => ?_)
    rw [if_neg (fun h => h1 h.1)]
    apply Ev.succ
    simp only [impl_WorstFlat.j0, if_true]
    exact Ev.now _
theorem FnExactWorstFlat : laws_FnExactWorstFlat.Pure := by
  intro a b ha hb
  refine Ev.rounds ?_
  unfold laws_FnExactWorstFlat.f
  refine Ev.bind (WF_spec a b) (Ev.bind (WF_impl a b) ?_)
  simp only [if_true, bne_self_eq_false, Bool.false_eq_true, if_false]
  exact Ev.now _

end Go.Proofs.Ytbgiddnffchnpaa.Pure
