/- For every kind of line and every list of levels the program's FirstWrong answers what the reference's does. -/
import Derived.Test.YtbgiddnffchnpaaQFnExactFirstWrongx5
import Derived.Test.YtbgiddnffchnpaaBase
import Derived.Test.YtbgiddnffchnpaaLevels
namespace Go.Proofs.Ytbgiddnffchnpaa.Pure
open Go.RowKit Go.Proofs.Ytbgiddnffchnpaa.QFnExactFirstWrong Go.Proofs.Ytbgiddnffchnpaa.Base Go.Proofs.YtbgiddnffchnpaaW.PrintWords Go.Proofs.YtbgiddnffchnpaaW.PrintLast Go.Proofs.YtbgiddnffchnpaaW.PrintMore
open Go.Proofs.Ytbgiddnffchnpaa.Levels
set_option linter.unusedVariables false
set_option linter.unusedSimpArgs false

/-! lvNe -/
theorem lvOut_ne {kind s : Int} (h : sOK kind s) : lvOut kind s false ≠ lvOut kind s true := by
  rcases h with ⟨rfl, rfl⟩ | ⟨rfl, rfl | rfl⟩ | ⟨rfl, rfl⟩ | ⟨rfl, rfl | rfl⟩ | ⟨rfl, rfl | rfl⟩ | ⟨rfl, rfl | rfl | rfl | rfl⟩ <;> decide

/-! matching -/
/-- How many numbers two lists have in common at the beginning. -/
def matN : List Int → List Int → Nat
  | a :: r, b :: q => if a = b then matN r q + 1 else 0
  | _, _ => 0
theorem matN_nil (l : List Int) : matN l [] = 0 := by cases l <;> rfl
theorem matN_same (l : List Int) : matN l l = l.length := by
  induction l with
  | nil => rfl
  | cons a l ih => simp [matN, ih]
theorem matN_le : ∀ (l q : List Int), matN l q ≤ l.length ∧ matN l q ≤ q.length := by
  intro l
  induction l with
  | nil => intro q; cases q <;> simp [matN]
  | cons a l ih =>
    intro q
    cases q with
    | nil => simp [matN]
    | cons b q =>
      have := ih q
      simp only [matN, List.length_cons]
      split <;> omega
theorem matN_full : ∀ (l q : List Int), l.length = q.length → matN l q = q.length → l = q := by
  intro l
  induction l with
  | nil => intro q h _; cases q with
    | nil => rfl
    | cons b q => simp at h
  | cons a l ih =>
    intro q h h2
    cases q with
    | nil => simp at h
    | cons b q =>
      simp only [List.length_cons] at h h2
      simp only [matN] at h2
      by_cases e : a = b
      · rw [if_pos e] at h2
        rw [e, ih q (by omega) (by omega)]
      · rw [if_neg e] at h2; omega
theorem matching_l0 (a b : List Int) (ha : a.length ≤ 1000) : ∀ (d n : Nat), n + d = a.length → Ev (fun k => impl_matching.l0 k a b (n : Int)) ((n + matN (a.drop n) (b.drop n) : Nat) : Int) := by
  intro d
  induction d with
  | zero =>
    intro n h
    have c1 : ¬ (n : Int) < (a.length : Int) := by omega
    have e : a.drop n = [] := List.drop_eq_nil_of_le (by omega)
    rw [e]
    apply Ev.succ
    simp only [impl_matching.l0]
    exact Ev.cond (fun h' => absurd h' c1) (fun _ => Ev.now _)
  | succ d ih =>
    intro n h
    have c1 : (n : Int) < (a.length : Int) := by omega
    have c2 : (0 : Int) ≤ (n : Int) := by omega
    have hw := w64_succ (show n < 9223372036854775807 by omega)
    by_cases hb : n < b.length
    · have c3 : (n : Int) < (b.length : Int) := by omega
      rw [drop_rd (show n < a.length by omega), drop_rd hb]
      simp only [matN]
      apply Ev.succ
      simp only [impl_matching.l0, hw]
      refine Ev.cond (fun _ => ?_) (fun h' => absurd c1 h')
      refine Ev.cond (fun _ => ?_) (fun h' => absurd c3 h')
      refine Ev.cond (fun _ => ?_) (fun h' => absurd c2 h')
      by_cases e : rd a (n : Int) = rd b (n : Int)
      · rw [if_pos e]
        refine Ev.cond (fun _ => ?_) (fun h' => absurd e h')
        have h3 := ih (n + 1) (by omega)
        have e2 : n + (matN (a.drop (n + 1)) (b.drop (n + 1)) + 1) = n + 1 + matN (a.drop (n + 1)) (b.drop (n + 1)) := by omega
        rw [e2]
        exact h3
      · rw [if_neg e]
        refine Ev.cond (fun h' => absurd h' e) (fun _ => ?_)
        exact Ev.now _
    · have c3 : ¬ (n : Int) < (b.length : Int) := by omega
      have e : b.drop n = [] := List.drop_eq_nil_of_le (by omega)
      rw [e, matN_nil]
      apply Ev.succ
      simp only [impl_matching.l0]
      refine Ev.cond (fun _ => ?_) (fun h' => absurd c1 h')
      exact Ev.cond (fun h' => absurd h' c3) (fun _ => Ev.now _)
theorem matching_ev (a b : List Int) (ha : a.length ≤ 1000) : Ev (fun k => impl_matching.f k a b) ((matN a b : Nat) : Int) := by
  have h := matching_l0 a b ha a.length 0 (by omega)
  rw [Nat.zero_add] at h
  exact h

/-! within -/
theorem within_eq (a b c : Int) : impl_within.f a b c = some (decide (b ≤ a ∧ a ≤ c)) := by
  unfold impl_within.f
  by_cases h : b ≤ a
  · simp [h, ge_iff_le]
  · simp [h, ge_iff_le]

/-! l00In -/
theorem l00In_eq (a b c : Int) : spec_l00In.f a b c = some (decide (b ≤ a ∧ a ≤ c)) := by
  unfold spec_l00In.f
  by_cases h : b ≤ a
  · simp [h, ge_iff_le]
  · simp [h, ge_iff_le]

/-! lineKinds -/
def kindB (kind : Int) : Bool := decide (0 ≤ kind ∧ kind ≤ 5)
def pairB (kind : Int) : Bool := decide (kind = 2 ∨ kind = 3)
def perN (kind : Int) : Int := if kind = 2 ∨ kind = 3 then 2 else 1
theorem kinds_of {kind : Int} (h : kindB kind = true) : kind = 0 ∨ kind = 1 ∨ kind = 2 ∨ kind = 3 ∨ kind = 4 ∨ kind = 5 := by
  have h := of_decide_eq_true h
  omega
theorem isLine_eq (kind : Int) : impl_isLine.f kind = some (kindB kind) := by
  unfold impl_isLine.f kindB
  rw [within_eq]; rfl
theorem l10Kind_eq (kind : Int) : spec_l10Kind.f kind = some (kindB kind) := by
  unfold spec_l10Kind.f kindB
  rw [l00In_eq]; rfl
theorem isPaired_eq (kind : Int) : impl_isPaired.f kind = some (pairB kind) := by
  unfold impl_isPaired.f pairB
  by_cases h : kind = 2
  · simp [h]
  · by_cases h3 : kind = 3
    · simp [h3]
    · simp [h, h3]

/-! lineBefore -/
def beforeN (kind : Int) : Int := if kind = 1 ∨ kind = 3 then -1 else 0
theorem l10Before_eq (kind : Int) : spec_l10Before.f kind = some (beforeN kind) := by
  unfold spec_l10Before.f beforeN
  by_cases h : kind = 1
  · simp [h]
  · by_cases h3 : kind = 3
    · simp [h3]
    · simp [h, h3]

/-! lineMore -/
theorem perBit_eq (kind : Int) : impl_perBit.f kind = some (perN kind) := by
  unfold impl_perBit.f perN
  rw [isPaired_eq]
  unfold pairB
  by_cases h : kind = 2 ∨ kind = 3
  · simp [h]
  · simp [h]
theorem l10Double_eq (kind : Int) : spec_l10Double.f kind = some (pairB kind) := by
  unfold spec_l10Double.f pairB
  by_cases h : kind = 2
  · simp [h]
  · by_cases h3 : kind = 3
    · simp [h3]
    · simp [h, h3]
theorem newWire_eq (kind : Int) : impl_newWire.f kind = some (kind, beforeN kind, 1, -1) := by
  unfold impl_newWire.f beforeN
  by_cases h : kind = 1
  · simp [h]
  · by_cases h3 : kind = 3
    · simp [h3]
    · simp [h, h3]

/-! levelsImpl -/
theorem send_eq {kind s : Int} (h : sOK kind s) (b : Bool) : impl_wire_send.f kind (wLevel kind s) (wNext kind s) (wFrom kind s) b = some (lvOut kind s b, kind, wLevel kind (lvNext kind s b), wNext kind (lvNext kind s b), wFrom kind (lvNext kind s b)) := by
  rcases h with ⟨rfl, rfl⟩ | ⟨rfl, rfl | rfl⟩ | ⟨rfl, rfl⟩ | ⟨rfl, rfl | rfl⟩ | ⟨rfl, rfl | rfl⟩ | ⟨rfl, rfl | rfl | rfl | rfl⟩ <;> cases b <;> decide +kernel

/-! areIn -/
theorem areIn_l0 (lo hi : Int) (xs : List Int) (hn : xs.length ≤ 1099511627776) : ∀ d n, n + d = xs.length → Ev (fun k => impl_areIn.l0 k lo hi xs (xs.length : Int) (n : Int)) (inAll lo hi (xs.drop n)) := by
  intro d
  induction d with
  | zero =>
    intro n h
    apply Ev.succ
    have h1 : ¬ ((n : Int) < (xs.length : Int)) := by omega
    have h2 : xs.drop n = [] := List.drop_eq_nil_of_le (by omega)
    simp only [impl_areIn.l0, h1, if_false, h2]
    exact Ev.now true
  | succ d ih =>
    intro n h
    apply Ev.succ
    have h1 : (n : Int) < (xs.length : Int) := by omega
    have h2 : (0 : Int) ≤ (n : Int) := by omega
    have h3 := ih (n + 1) (by omega)
    rw [drop_rd (show n < xs.length by omega), inAll_cons]
    simp only [impl_areIn.l0, h1, h2, if_true, within_eq, Option.bind_some, w64_succ (show n < 9223372036854775807 by omega)]
    by_cases hc : lo ≤ rd xs (n : Int) ∧ rd xs (n : Int) ≤ hi
    · simp only [hc, decide_true, if_true, Bool.true_and, and_self]; exact h3
    · simp only [hc, decide_false, Bool.false_and, Bool.false_eq_true, if_false]; exact Ev.now false
theorem areIn_ev (lo hi : Int) (xs : List Int) (hn : xs.length ≤ 1099511627776) : Ev (fun k => impl_areIn.f k xs lo hi) (inAll lo hi xs) := by
  have h := areIn_l0 lo hi xs hn xs.length 0 (by omega)
  exact h

/-! areLevels -/
theorem areLevels_ev (xs : List Int) (hn : xs.length ≤ 1099511627776) : Ev (fun k => impl_areLevels.f k xs) (levelsB xs) := by
  unfold impl_areLevels.f levelsB
  by_cases h : xs.length ≤ 800
  · have h1 : (xs.length : Int) ≤ 800 := by omega
    simp only [h1, if_true, h, decide_true, Bool.and_true]
    exact Ev.bind (areIn_ev (-1) 1 xs hn) (Ev.now _)
  · have h1 : ¬ (xs.length : Int) ≤ 800 := by omega
    simp only [h1, if_false, h, decide_false, Bool.and_false]
    exact Ev.now _

/-! mxmn -/
theorem mx_eq (a b : Int) : mx a b = max a b := by unfold mx; split <;> omega
theorem mn_eq (a b : Int) : mn a b = min a b := by unfold mn; split <;> omega

/-! FirstWrongI -/
/-- One step of the program's search for the first wrong level, out of a state of the wire. -/
theorem FWi_step (kind : Int) (Q : Nat) (hQ : perN kind = (Q : Int)) (hQ12 : Q = 1 ∨ Q = 2) (hQ2 : (if kind = 2 ∨ kind = 3 then 2 else 1) = Q) (xs : List Int) (hx : xs.length ≤ 1000)
    (n : Nat) (hn : n < xs.length) (s : Int) (hs : sOK kind s) (rest : List Int) (hrest : (xs.take (min (n + Q) xs.length)).drop n = rest) (r : Int × Bool)
    (bad : max (matN (lvOut kind s false) rest) (matN (lvOut kind s true) rest) < rest.length → r = (((n + max (matN (lvOut kind s false) rest) (matN (lvOut kind s true) rest) : Nat) : Int), true))
    (one : ¬ max (matN (lvOut kind s false) rest) (matN (lvOut kind s true) rest) < rest.length → matN (lvOut kind s false) rest < matN (lvOut kind s true) rest →
      Ev (fun k => impl_FirstWrong.l0 k kind xs ((n + Q : Nat) : Int) kind (wLevel kind (lvNext kind s true)) (wNext kind (lvNext kind s true)) (wFrom kind (lvNext kind s true))) r)
    (zero : ¬ max (matN (lvOut kind s false) rest) (matN (lvOut kind s true) rest) < rest.length → ¬ matN (lvOut kind s false) rest < matN (lvOut kind s true) rest →
      Ev (fun k => impl_FirstWrong.l0 k kind xs ((n + Q : Nat) : Int) kind (wLevel kind (lvNext kind s false)) (wNext kind (lvNext kind s false)) (wFrom kind (lvNext kind s false))) r) :
    Ev (fun k => impl_FirstWrong.l0 k kind xs (n : Int) kind (wLevel kind s) (wNext kind s) (wFrom kind s)) r := by
  have hlen : ∀ b, (lvOut kind s b).length = Q := fun b => by rw [lvOut_len hs b]; exact hQ2
  have c1 : (n : Int) < (xs.length : Int) := by omega
  have c2 : (0 : Int) ≤ (n : Int) := by omega
  have hw : wrap64 ((n : Int) + (Q : Int)) = ((n + Q : Nat) : Int) := w64_add _ _ (by omega)
  have hmn : mn ((n + Q : Nat) : Int) (xs.length : Int) = ((min (n + Q) xs.length : Nat) : Int) := by rw [mn_eq]; omega
  have c3 : (n : Int) ≤ ((min (n + Q) xs.length : Nat) : Int) := by omega
  have c4 : ((min (n + Q) xs.length : Nat) : Int) ≤ (xs.length : Int) := by omega
  have m1 := matching_ev (lvOut kind s false) rest (by rw [hlen]; omega)
  have m2 := matching_ev (lvOut kind s true) rest (by rw [hlen]; omega)
  have p1 := (matN_le (lvOut kind s false) rest).1
  have p2 := (matN_le (lvOut kind s true) rest).1
  rw [hlen] at p1 p2
  apply Ev.succ
  simp only [impl_FirstWrong.l0]
  refine Ev.cond (fun _ => ?_) (fun h' => absurd c1 h')
  refine Ev.bind (Ev.const (perBit_eq kind)) ?_
  rw [hQ, hw, hmn]
  refine Ev.cond (fun _ => ?_) (fun h' => absurd c2 h')
  refine Ev.cond (fun _ => ?_) (fun h' => absurd c3 h')
  refine Ev.cond (fun _ => ?_) (fun h' => absurd c4 h')
  refine Ev.bind (Ev.const (send_eq hs false)) ?_
  refine Ev.bind (Ev.const (send_eq hs true)) ?_
  rw [Int.toNat_natCast, Int.toNat_natCast, hrest]
  refine Ev.bind m1 (Ev.bind m2 ?_)
  rw [mx_eq]
  generalize matN (lvOut kind s false) rest = a at *
  generalize matN (lvOut kind s true) rest = b at *
  by_cases hb : max a b < rest.length
  · refine Ev.cond (fun _ => ?_) (fun h' => absurd (by omega) h')
    have e : wrap64 ((n : Int) + max (a : Int) (b : Int)) = ((n + max a b : Nat) : Int) := by rw [w64 (by omega) (by omega)]; omega
    rw [bad hb, e]
    exact Ev.now _
  · refine Ev.cond (fun h' => absurd h' (by omega)) (fun _ => ?_)
    by_cases hab : a < b
    · refine Ev.cond (fun _ => ?_) (fun h' => absurd (by omega) h')
      refine Ev.bind (Ev.const (perBit_eq kind)) ?_
      rw [hQ, hw]
      exact one hb hab
    · refine Ev.cond (fun h' => absurd h' (by omega)) (fun _ => ?_)
      refine Ev.bind (Ev.const (perBit_eq kind)) ?_
      rw [hQ, hw]
      exact zero hb hab
theorem FWi_end (kind : Int) (xs : List Int) (n : Nat) (hn : xs.length ≤ n) (a b c d : Int) : Ev (fun k => impl_FirstWrong.l0 k kind xs (n : Int) a b c d) (0, false) := by
  have c1 : ¬ (n : Int) < (xs.length : Int) := by omega
  apply Ev.succ
  simp only [impl_FirstWrong.l0]
  exact Ev.cond (fun h' => absurd h' c1) (fun _ => Ev.now _)

/-! FirstWrongS -/
theorem seg1 {xs : List Int} {n : Nat} (h : n < xs.length) : (xs.take (min (n + 1) xs.length)).drop n = [rd xs (n : Int)] := by
  rw [Nat.min_eq_left (by omega), List.drop_take, Nat.add_sub_cancel_left, drop_rd h]
  rfl
/-- Which bit a level tells, for kinds with one level a bit. -/
def stepS (kind s x : Int) : Option Bool := if lvOut kind s true = [x] then some true else if lvOut kind s false = [x] then some false else none
theorem mat1 (a x : Int) : matN [a] [x] = if a = x then 1 else 0 := by
  by_cases h : a = x
  · simp [matN, h]
  · simp [matN, h]
theorem FWi_S (kind : Int) (hk : kindB kind = true) (hp : ¬ (kind = 2 ∨ kind = 3)) (xs : List Int) (hx : xs.length ≤ 1000) (n : Nat) (hn : n < xs.length) (s : Int) (hs : sOK kind s) (r : Int × Bool)
    (bad : stepS kind s (rd xs (n : Int)) = none → r = ((n : Int), true))
    (next : ∀ b, stepS kind s (rd xs (n : Int)) = some b → Ev (fun k => impl_FirstWrong.l0 k kind xs ((n + 1 : Nat) : Int) kind (wLevel kind (lvNext kind s b)) (wNext kind (lvNext kind s b)) (wFrom kind (lvNext kind s b))) r) :
    Ev (fun k => impl_FirstWrong.l0 k kind xs (n : Int) kind (wLevel kind s) (wNext kind s) (wFrom kind s)) r := by
  have hQ : perN kind = ((1 : Nat) : Int) := by unfold perN; rw [if_neg hp]; rfl
  have hQ2 : (if kind = 2 ∨ kind = 3 then 2 else 1) = 1 := by rw [if_neg hp]
  have hlen : ∀ b, (lvOut kind s b).length = 1 := fun b => by rw [lvOut_len hs b]; exact hQ2
  obtain ⟨z, hz⟩ := List.length_eq_one_iff.1 (hlen false)
  obtain ⟨o, ho⟩ := List.length_eq_one_iff.1 (hlen true)
  have hne : z ≠ o := by
    intro e
    have h := lvOut_ne hs
    rw [hz, ho, e] at h
    exact h rfl
  have hseg := seg1 hn
  unfold stepS at bad next
  rw [hz, ho] at bad next
  generalize rd xs (n : Int) = x at bad next hseg
  have e1 : ([o] = [x]) ↔ o = x := by simp
  have e2 : ([z] = [x]) ↔ z = x := by simp
  simp only [e1, e2] at bad next
  refine FWi_step kind 1 hQ (.inl rfl) hQ2 xs hx n hn s hs [x] hseg r ?_ ?_ ?_
  · rw [hz, ho, mat1, mat1]
    intro h
    by_cases h1 : o = x
    · rw [if_pos h1] at h
      simp only [List.length_singleton] at h
      omega
    · by_cases h2 : z = x
      · rw [if_pos h2] at h
        simp only [List.length_singleton] at h
        omega
      · rw [if_neg h1, if_neg h2] at bad ⊢
        exact bad rfl
  · rw [hz, ho, mat1, mat1]
    intro _ h
    by_cases h1 : o = x
    · exact next true (by rw [if_pos h1])
    · rw [if_neg h1] at h
      omega
  · rw [hz, ho, mat1, mat1]
    intro h h3
    by_cases h1 : o = x
    · rw [if_pos h1, if_neg (fun e => hne (by rw [e, h1]))] at h3
      omega
    · by_cases h2 : z = x
      · exact next false (by rw [if_neg h1, if_pos h2])
      · rw [if_neg h1, if_neg h2] at h
        simp only [List.length_singleton] at h
        omega

/-! l10Levels -/
def circL : List Int := [0, 1, 0, -1]
/-- What the reference holds of the state. -/
def sHold (kind s last mark at_ : Int) : Prop := ((kind = 1 ∨ kind = 3) → last = s) ∧ (kind = 4 → mark = s) ∧ (kind = 5 → at_ = s)

/-! l10Is -/
theorem l10Is_l0 (xs : List Int) (hn : xs.length ≤ 1099511627776) : ∀ d n, n + d = xs.length → Ev (fun k => spec_l10Is.l0 k xs (n : Int)) (inAll (-1) 1 (xs.drop n) && decide (xs.length ≤ 800)) := by
  intro d
  induction d with
  | zero =>
    intro n h
    apply Ev.succ
    have h1 : ¬ ((n : Int) < (xs.length : Int)) := by omega
    have h2 : xs.drop n = [] := List.drop_eq_nil_of_le (by omega)
    have h3 : ((xs.length : Int) ≤ 800) = (xs.length ≤ 800) := propext ⟨fun h => by omega, fun h => by omega⟩
    simp only [spec_l10Is.l0, h1, if_false, h2, h3]
    exact Ev.now _
  | succ d ih =>
    intro n h
    apply Ev.succ
    have h1 : (n : Int) < (xs.length : Int) := by omega
    have h2 : (0 : Int) ≤ (n : Int) := by omega
    have h3 := ih (n + 1) (by omega)
    rw [drop_rd (show n < xs.length by omega), inAll_cons]
    simp only [spec_l10Is.l0, h1, h2, if_true, l00In_eq, Option.bind_some, w64_succ (show n < 9223372036854775807 by omega)]
    by_cases hc : (-1) ≤ rd xs (n : Int) ∧ rd xs (n : Int) ≤ 1
    · simp only [hc, decide_true, if_true, Bool.true_and, and_self]; exact h3
    · simp only [hc, decide_false, Bool.false_and, Bool.false_eq_true, if_false]; exact Ev.now false
theorem l10Is_ev (xs : List Int) (hn : xs.length ≤ 1099511627776) : Ev (fun k => spec_l10Is.f k xs) (levelsB xs) := by
  have h := l10Is_l0 xs hn xs.length 0 (by omega)
  exact h

/-! canRead -/
def canB (kind : Int) (xs : List Int) : Bool := kindB kind && levelsB xs && (if kind = 2 ∨ kind = 3 then decide (xs.length % 2 = 0) else decide (xs.length ≤ 400))
theorem canB_pair {kind : Int} {xs : List Int} (h : canB kind xs = true) : kindB kind = true ∧ levelsB xs = true ∧ (pairB kind = true → xs.length % 2 = 0) := by
  unfold canB at h
  rw [Bool.and_eq_true, Bool.and_eq_true] at h
  refine ⟨h.1.1, h.1.2, fun hp => ?_⟩
  have hp := of_decide_eq_true hp
  rw [if_pos hp] at h
  exact of_decide_eq_true h.2

/-! toInt64S -/
theorem toInt64S_l0 (xs : List Int) (hn : xs.length ≤ 1099511627776) : ∀ d n, n + d = xs.length → Ev (fun k => laws_toInt64S.l0 k xs (xs.take n ++ List.replicate d 0) (n : Int)) xs := by
  intro d
  induction d with
  | zero =>
    intro n h
    apply Ev.succ
    have h1 : ¬ ((n : Int) < (xs.length : Int)) := by omega
    have h2 : xs.take n = xs := List.take_of_length_le (by omega)
    simp only [laws_toInt64S.l0, h1, if_false, h2, List.replicate_zero, List.append_nil]
    exact Ev.now _
  | succ d ih =>
    intro n h
    apply Ev.succ
    have h1 : (n : Int) < (xs.length : Int) := by omega
    have h2 : (0 : Int) ≤ (n : Int) := by omega
    have h3 := ih (n + 1) (by omega)
    have h4 : (n : Int) < ((xs.take n ++ List.replicate (d + 1) (0 : Int)).length : Int) := by
      simp only [List.length_append, List.length_take, List.length_replicate]; omega
    have h5 : (xs.take n ++ List.replicate (d + 1) (0 : Int)).set n (rd xs (n : Int)) = xs.take (n + 1) ++ List.replicate d 0 := by
      rw [List.replicate_succ, set_mid _ _ _ _ _ (by rw [List.length_take]; omega), take_rd (show n < xs.length by omega)]
      simp
    simp only [laws_toInt64S.l0, h1, h2, h4, if_true, Int.toNat_natCast, h5, w64_succ (show n < 9223372036854775807 by omega)]
    exact h3
theorem toInt64S_ev (xs : List Int) (hn : xs.length ≤ 1099511627776) : Ev (fun k => laws_toInt64S.f k xs) xs := by
  unfold laws_toInt64S.f
  have h1 : (0 : Int) ≤ (xs.length : Int) := by omega
  have h2 : xs.length ≤ 35184372088832 := by omega
  simp only [h1, if_true, Int.toNat_natCast, h2]
  have h := toInt64S_l0 xs hn xs.length 0 (by omega)
  exact h

/-! eqInt64S -/
theorem eqInt64S_l0 (xs ys : List Int) (hl : xs.length = ys.length) (hn : xs.length ≤ 1099511627776) : ∀ d n, n + d = xs.length → Ev (fun k => laws_eqInt64S.l0 k xs ys (n : Int)) (decide (xs.drop n = ys.drop n)) := by
  intro d
  induction d with
  | zero =>
    intro n h
    apply Ev.succ
    have h1 : ¬ ((n : Int) < (xs.length : Int)) := by omega
    have h2 : xs.drop n = [] := List.drop_eq_nil_of_le (by omega)
    have h3 : ys.drop n = [] := List.drop_eq_nil_of_le (by omega)
    simp only [laws_eqInt64S.l0, h1, if_false, h2, h3, decide_true]
    exact Ev.now true
  | succ d ih =>
    intro n h
    apply Ev.succ
    have h1 : (n : Int) < (xs.length : Int) := by omega
    have h1' : (n : Int) < (ys.length : Int) := by omega
    have h2 : (0 : Int) ≤ (n : Int) := by omega
    have h3 := ih (n + 1) (by omega)
    rw [drop_rd (show n < xs.length by omega), drop_rd (show n < ys.length by omega)]
    simp only [laws_eqInt64S.l0, h1, h1', h2, if_true, w64_succ (show n < 9223372036854775807 by omega), List.cons.injEq]
    by_cases hc : rd xs (n : Int) = rd ys (n : Int)
    · simp only [hc, if_true, true_and]; exact h3
    · simp only [hc, if_false, false_and, decide_false]; exact Ev.now false
theorem eqInt64S_ev (xs ys : List Int) (hn : xs.length ≤ 1099511627776) : Ev (fun k => laws_eqInt64S.f k xs ys) (decide (xs = ys)) := by
  unfold laws_eqInt64S.f
  by_cases hl : xs.length = ys.length
  · have h1 : (xs.length : Int) = (ys.length : Int) := by omega
    simp only [h1, if_true]
    have h := eqInt64S_l0 xs ys hl hn xs.length 0 (by omega)
    exact h
  · have h1 : ¬ (xs.length : Int) = (ys.length : Int) := by omega
    have h2 : ¬ xs = ys := fun h => hl (by rw [h])
    simp only [h1, if_false, h2, decide_false]
    exact Ev.now false
theorem eqInt64S_same (xs : List Int) (hn : xs.length ≤ 1099511627776) : Ev (fun k => laws_eqInt64S.f k xs xs) true := by
  have h := eqInt64S_ev xs xs hn
  rw [decide_eq_true rfl] at h
  exact h

theorem SW_enter {kind : Int} {xs : List Int} {last mark at_ : Int} {n : Nat} (hn : n < xs.length) {r : Int}
    (h : Ev (fun k => spec_l10Wrong.j1 k kind xs last mark at_ circL (n : Int) (rd xs (n : Int)) ((rd xs (n : Int)) != 0) kind (pairB kind)) r) :
    Ev (fun k => spec_l10Wrong.l0 k kind xs last mark at_ circL (n : Int)) r := by
  apply Ev.succ
  simp only [spec_l10Wrong.l0]
  refine Ev.cond (fun _ => ?_) (fun h' => absurd (by omega) h')
  refine Ev.cond (fun _ => ?_) (fun h' => absurd (by omega) h')
  by_cases k2 : kind = 2
  · have e : pairB kind = (kind == 2) := by rw [k2]; decide
    rw [e] at h
    exact Ev.cond (fun _ => h) (fun h' => absurd k2 h')
  · have e : pairB kind = (kind == 3) := by
      unfold pairB
      by_cases k3 : kind = 3
      · rw [k3]; decide
      · rw [decide_eq_false (fun g => g.elim k2 k3)]
        exact (beq_eq_false_iff_ne.2 k3).symm
    rw [e] at h
    exact Ev.cond (fun h' => absurd h' k2) (fun _ => h)
theorem SW_end {kind : Int} {xs : List Int} {last mark at_ : Int} {n : Nat} (hn : xs.length ≤ n) : Ev (fun k => spec_l10Wrong.l0 k kind xs last mark at_ circL (n : Int)) (-1) := by
  apply Ev.succ
  simp only [spec_l10Wrong.l0]
  exact Ev.cond (fun h' => absurd h' (by omega)) (fun _ => Ev.now _)
theorem SW_01 {kind : Int} (hk : kind = 0 ∨ kind = 1) {xs : List Int} {last mark at_ : Int} {n : Nat} (hn : n < xs.length) (hl : xs.length ≤ 1000) :
    (rd xs (n : Int) = 0 → Ev (fun k => spec_l10Wrong.l0 k kind xs last mark at_ circL (n : Int)) (n : Int)) ∧
    (rd xs (n : Int) ≠ 0 → ∀ r, Ev (fun k => spec_l10Wrong.l0 k kind xs (rd xs (n : Int)) mark at_ circL ((n + 1 : Nat) : Int)) r → Ev (fun k => spec_l10Wrong.l0 k kind xs last mark at_ circL (n : Int)) r) := by
  have hp : pairB kind = false := decide_eq_false (by omega)
  have hw := w64_succ (show n < 9223372036854775807 by omega)
  constructor
  · intro h0
    refine SW_enter hn ?_
    apply Ev.succ
    simp only [spec_l10Wrong.j1, hp, hw]
    refine Ev.cond (fun h' => absurd h' (by decide)) (fun _ => ?_)
    refine Ev.cond (fun h' => absurd h' (by omega)) (fun _ => ?_)
    refine Ev.cond (fun h' => absurd h' (by omega)) (fun _ => ?_)
    rw [h0]
    exact Ev.cond (fun h' => absurd h' (by decide)) (fun _ => Ev.now _)
  · intro h0 r hr
    refine SW_enter hn ?_
    apply Ev.succ
    simp only [spec_l10Wrong.j1, hp, hw]
    refine Ev.cond (fun h' => absurd h' (by decide)) (fun _ => ?_)
    refine Ev.cond (fun h' => absurd h' (by omega)) (fun _ => ?_)
    refine Ev.cond (fun h' => absurd h' (by omega)) (fun _ => ?_)
    exact Ev.cond (fun _ => hr) (fun h' => absurd (bne_iff_ne.2 h0) h')
theorem SW_4 {xs : List Int} {last mark at_ : Int} {n : Nat} (hm : mark = 1 ∨ mark = -1) (hn : n < xs.length) (hl : xs.length ≤ 1000) :
    (rd xs (n : Int) ≠ 0 → rd xs (n : Int) ≠ mark → Ev (fun k => spec_l10Wrong.l0 k 4 xs last mark at_ circL (n : Int)) (n : Int)) ∧
    (rd xs (n : Int) = 0 → ∀ r, Ev (fun k => spec_l10Wrong.l0 k 4 xs (rd xs (n : Int)) mark at_ circL ((n + 1 : Nat) : Int)) r → Ev (fun k => spec_l10Wrong.l0 k 4 xs last mark at_ circL (n : Int)) r) ∧
    (rd xs (n : Int) = mark → ∀ r, Ev (fun k => spec_l10Wrong.l0 k 4 xs (rd xs (n : Int)) (-mark) at_ circL ((n + 1 : Nat) : Int)) r → Ev (fun k => spec_l10Wrong.l0 k 4 xs last mark at_ circL (n : Int)) r) := by
  have hp : pairB 4 = false := by decide
  have hw := w64_succ (show n < 9223372036854775807 by omega)
  have hw2 : wrap64 (-mark) = -mark := w64 (by omega) (by omega)
  refine ⟨fun h0 h1 => ?_, fun h0 r hr => ?_, fun h1 r hr => ?_⟩
  · refine SW_enter hn ?_
    apply Ev.succ
    simp only [spec_l10Wrong.j1, hp]
    refine Ev.cond (fun h' => absurd h' (by decide)) (fun _ => ?_)
    refine Ev.cond (fun _ => ?_) (fun h' => absurd (by trivial) h')
    refine Ev.cond (fun h' => absurd h' h0) (fun _ => ?_)
    rw [beq_eq_false_iff_ne.2 h1]
    apply Ev.succ
    simp only [spec_l10Wrong.j2]
    refine Ev.cond (fun h' => absurd h' h0) (fun _ => ?_)
    exact Ev.cond (fun h' => absurd h' (by decide)) (fun _ => Ev.now _)
  · refine SW_enter hn ?_
    apply Ev.succ
    simp only [spec_l10Wrong.j1, hp]
    refine Ev.cond (fun h' => absurd h' (by decide)) (fun _ => ?_)
    refine Ev.cond (fun _ => ?_) (fun h' => absurd (by trivial) h')
    refine Ev.cond (fun _ => ?_) (fun h' => absurd h0 h')
    apply Ev.succ
    simp only [spec_l10Wrong.j2, hw]
    refine Ev.cond (fun _ => ?_) (fun h' => absurd h0 h')
    exact Ev.cond (fun _ => hr) (fun h' => absurd (by trivial) h')
  · have h0 : ¬ rd xs (n : Int) = 0 := by omega
    refine SW_enter hn ?_
    apply Ev.succ
    simp only [spec_l10Wrong.j1, hp]
    refine Ev.cond (fun h' => absurd h' (by decide)) (fun _ => ?_)
    refine Ev.cond (fun _ => ?_) (fun h' => absurd (by trivial) h')
    refine Ev.cond (fun h' => absurd h' h0) (fun _ => ?_)
    rw [beq_iff_eq.2 h1]
    apply Ev.succ
    simp only [spec_l10Wrong.j2, hw, hw2]
    refine Ev.cond (fun h' => absurd h' h0) (fun _ => ?_)
    exact Ev.cond (fun _ => hr) (fun h' => absurd (by trivial) h')
theorem circ_rd {s : Int} (h : s = 0 ∨ s = 1 ∨ s = 2 ∨ s = 3) : rd circL s = circ s ∧ Int.tmod (wrap64 (s + 1)) 4 = (if s = 3 then 0 else s + 1) := by
  rcases h with rfl | rfl | rfl | rfl <;> exact ⟨by decide, by decide +kernel⟩
theorem SW_5 {xs : List Int} {last mark s : Int} {n : Nat} (hs : s = 0 ∨ s = 1 ∨ s = 2 ∨ s = 3) (hn : n < xs.length) (hl : xs.length ≤ 1000) :
    (rd xs (n : Int) ≠ circ s → rd xs (n : Int) ≠ circ (if s = 3 then 0 else s + 1) → Ev (fun k => spec_l10Wrong.l0 k 5 xs last mark s circL (n : Int)) (n : Int)) ∧
    (rd xs (n : Int) = circ s → ∀ r, Ev (fun k => spec_l10Wrong.l0 k 5 xs (rd xs (n : Int)) mark s circL ((n + 1 : Nat) : Int)) r → Ev (fun k => spec_l10Wrong.l0 k 5 xs last mark s circL (n : Int)) r) ∧
    (rd xs (n : Int) = circ (if s = 3 then 0 else s + 1) → ∀ r, Ev (fun k => spec_l10Wrong.l0 k 5 xs (rd xs (n : Int)) mark (if s = 3 then 0 else s + 1) circL ((n + 1 : Nat) : Int)) r → Ev (fun k => spec_l10Wrong.l0 k 5 xs last mark s circL (n : Int)) r) := by
  have hp : pairB 5 = false := by decide
  have hw := w64_succ (show n < 9223372036854775807 by omega)
  obtain ⟨e1, e2⟩ := circ_rd hs
  have hs2 : (if s = 3 then 0 else s + 1) = 0 ∨ (if s = 3 then 0 else s + 1) = 1 ∨ (if s = 3 then 0 else s + 1) = 2 ∨ (if s = 3 then 0 else s + 1) = 3 := by split <;> omega
  obtain ⟨e3, _⟩ := circ_rd hs2
  have hcl : (circL.length : Int) = 4 := by decide
  have hne : circ s ≠ circ (if s = 3 then 0 else s + 1) := by rcases hs with rfl | rfl | rfl | rfl <;> decide
  have c1 : 0 ≤ s := by omega
  have c2 : s < (circL.length : Int) := by omega
  generalize (if s = 3 then 0 else s + 1) = s2 at *
  have c3 : 0 ≤ s2 := by omega
  have c4 : s2 < (circL.length : Int) := by omega
  refine ⟨fun h0 h1 => ?_, fun h0 r hr => ?_, fun h1 r hr => ?_⟩
  · refine SW_enter hn ?_
    apply Ev.succ
    simp only [spec_l10Wrong.j1, hp, e1, e2, e3]
    refine Ev.cond (fun h' => absurd h' (by decide)) (fun _ => ?_)
    refine Ev.cond (fun h' => absurd h' (by decide)) (fun _ => ?_)
    refine Ev.cond (fun _ => ?_) (fun h' => absurd (by trivial) h')
    refine Ev.cond (fun _ => ?_) (fun h' => absurd c1 h')
    refine Ev.cond (fun _ => ?_) (fun h' => absurd c2 h')
    refine Ev.cond (fun h' => absurd h' h0) (fun _ => ?_)
    refine Ev.cond (fun _ => ?_) (fun h' => absurd c3 h')
    refine Ev.cond (fun _ => ?_) (fun h' => absurd c4 h')
    rw [beq_eq_false_iff_ne.2 h1]
    apply Ev.succ
    simp only [spec_l10Wrong.j3, e1]
    refine Ev.cond (fun _ => ?_) (fun h' => absurd c1 h')
    refine Ev.cond (fun _ => ?_) (fun h' => absurd c2 h')
    refine Ev.cond (fun h' => absurd h' h0) (fun _ => ?_)
    exact Ev.cond (fun h' => absurd h' (by decide)) (fun _ => Ev.now _)
  · refine SW_enter hn ?_
    apply Ev.succ
    simp only [spec_l10Wrong.j1, hp, e1, e2, e3]
    refine Ev.cond (fun h' => absurd h' (by decide)) (fun _ => ?_)
    refine Ev.cond (fun h' => absurd h' (by decide)) (fun _ => ?_)
    refine Ev.cond (fun _ => ?_) (fun h' => absurd (by trivial) h')
    refine Ev.cond (fun _ => ?_) (fun h' => absurd c1 h')
    refine Ev.cond (fun _ => ?_) (fun h' => absurd c2 h')
    refine Ev.cond (fun _ => ?_) (fun h' => absurd h0 h')
    apply Ev.succ
    simp only [spec_l10Wrong.j3, e1, hw]
    refine Ev.cond (fun _ => ?_) (fun h' => absurd c1 h')
    refine Ev.cond (fun _ => ?_) (fun h' => absurd c2 h')
    refine Ev.cond (fun _ => ?_) (fun h' => absurd h0 h')
    exact Ev.cond (fun _ => hr) (fun h' => absurd (by trivial) h')
  · have h0 : ¬ rd xs (n : Int) = circ s := fun e => hne (by rw [← e, h1])
    refine SW_enter hn ?_
    apply Ev.succ
    simp only [spec_l10Wrong.j1, hp, e1, e2, e3]
    refine Ev.cond (fun h' => absurd h' (by decide)) (fun _ => ?_)
    refine Ev.cond (fun h' => absurd h' (by decide)) (fun _ => ?_)
    refine Ev.cond (fun _ => ?_) (fun h' => absurd (by trivial) h')
    refine Ev.cond (fun _ => ?_) (fun h' => absurd c1 h')
    refine Ev.cond (fun _ => ?_) (fun h' => absurd c2 h')
    refine Ev.cond (fun h' => absurd h' h0) (fun _ => ?_)
    refine Ev.cond (fun _ => ?_) (fun h' => absurd c3 h')
    refine Ev.cond (fun _ => ?_) (fun h' => absurd c4 h')
    rw [beq_iff_eq.2 h1]
    apply Ev.succ
    simp only [spec_l10Wrong.j3, e1, e2, hw]
    refine Ev.cond (fun _ => ?_) (fun h' => absurd c1 h')
    refine Ev.cond (fun _ => ?_) (fun h' => absurd c2 h')
    refine Ev.cond (fun h' => absurd h' h0) (fun _ => ?_)
    exact Ev.cond (fun _ => hr) (fun h' => absurd (by trivial) h')
theorem sOK_kind {kind s : Int} (h : sOK kind s) : (kind = 4 → s = 1 ∨ s = -1) ∧ (kind = 5 → s = 0 ∨ s = 1 ∨ s = 2 ∨ s = 3) ∧ (kind = 1 → s = 1 ∨ s = -1) := by
  rcases h with ⟨rfl, _⟩ | ⟨rfl, g⟩ | ⟨rfl, _⟩ | ⟨rfl, _⟩ | ⟨rfl, g⟩ | ⟨rfl, g⟩
  · exact ⟨fun h => absurd h (by decide), fun h => absurd h (by decide), fun h => absurd h (by decide)⟩
  · exact ⟨fun h => absurd h (by decide), fun h => absurd h (by decide), fun _ => g⟩
  · exact ⟨fun h => absurd h (by decide), fun h => absurd h (by decide), fun h => absurd h (by decide)⟩
  · exact ⟨fun h => absurd h (by decide), fun h => absurd h (by decide), fun h => absurd h (by decide)⟩
  · exact ⟨fun _ => g, fun h => absurd h (by decide), fun h => absurd h (by decide)⟩
  · exact ⟨fun h => absurd h (by decide), fun _ => g, fun h => absurd h (by decide)⟩
theorem stepS_1 {kind s x : Int} (hk : kind = 0 ∨ kind = 1) (hs : sOK kind s) (hx : -1 ≤ x ∧ x ≤ 1) : stepS kind s x = none ↔ x = 0 := by
  have hx3 : x = -1 ∨ x = 0 ∨ x = 1 := by omega
  rcases hk with rfl | rfl
  · rcases hx3 with rfl | rfl | rfl <;> simp [stepS, lvOut]
  · rcases (sOK_kind hs).2.2 rfl with rfl | rfl <;> rcases hx3 with rfl | rfl | rfl <;> decide
theorem stepS_4 {s x : Int} (hs : s = 1 ∨ s = -1) (hx : -1 ≤ x ∧ x ≤ 1) :
    (stepS 4 s x = none → x ≠ 0 ∧ x ≠ s) ∧ (stepS 4 s x = some false → x = 0) ∧ (stepS 4 s x = some true → x = s) := by
  have hx3 : x = -1 ∨ x = 0 ∨ x = 1 := by omega
  rcases hs with rfl | rfl <;> rcases hx3 with rfl | rfl | rfl <;> decide
theorem stepS_5 {s x : Int} (hs : s = 0 ∨ s = 1 ∨ s = 2 ∨ s = 3) (hx : -1 ≤ x ∧ x ≤ 1) :
    (stepS 5 s x = none → x ≠ circ s ∧ x ≠ circ (if s = 3 then 0 else s + 1)) ∧ (stepS 5 s x = some false → x = circ s) ∧ (stepS 5 s x = some true → x = circ (if s = 3 then 0 else s + 1)) := by
  have hx3 : x = -1 ∨ x = 0 ∨ x = 1 := by omega
  rcases hs with rfl | rfl | rfl | rfl <;> rcases hx3 with rfl | rfl | rfl <;> decide
theorem SW_S {kind : Int} (hk : kind = 0 ∨ kind = 1 ∨ kind = 4 ∨ kind = 5) {xs : List Int} {last mark at_ s : Int} {n : Nat} (hs : sOK kind s) (h4 : kind = 4 → mark = s) (h5 : kind = 5 → at_ = s) (hn : n < xs.length) (hl : xs.length ≤ 1000) (hx : -1 ≤ rd xs (n : Int) ∧ rd xs (n : Int) ≤ 1) :
    (stepS kind s (rd xs (n : Int)) = none → Ev (fun k => spec_l10Wrong.l0 k kind xs last mark at_ circL (n : Int)) (n : Int)) ∧
    (∀ b, stepS kind s (rd xs (n : Int)) = some b → ∃ last2 mark2 at2 : Int, (kind = 4 → mark2 = lvNext kind s b) ∧ (kind = 5 → at2 = lvNext kind s b) ∧
      ∀ r, Ev (fun k => spec_l10Wrong.l0 k kind xs last2 mark2 at2 circL ((n + 1 : Nat) : Int)) r → Ev (fun k => spec_l10Wrong.l0 k kind xs last mark at_ circL (n : Int)) r) := by
  by_cases k4 : kind = 4
  · subst k4
    obtain rfl := h4 rfl
    have hm := (sOK_kind hs).1 rfl
    obtain ⟨w1, w2, w3⟩ := SW_4 (last := last) (at_ := at_) hm hn hl
    obtain ⟨v1, v2, v3⟩ := stepS_4 hm hx
    refine ⟨fun h => w1 (v1 h).1 (v1 h).2, fun b hb => ?_⟩
    cases b
    · exact ⟨_, mark, at_, fun _ => rfl, fun h => absurd h (by decide), w2 (v2 hb)⟩
    · exact ⟨_, -mark, at_, fun _ => rfl, fun h => absurd h (by decide), w3 (v3 hb)⟩
  · by_cases k5 : kind = 5
    · subst k5
      obtain rfl := h5 rfl
      have hm := (sOK_kind hs).2.1 rfl
      obtain ⟨w1, w2, w3⟩ := SW_5 (last := last) (mark := mark) hm hn hl
      obtain ⟨v1, v2, v3⟩ := stepS_5 hm hx
      refine ⟨fun h => w1 (v1 h).1 (v1 h).2, fun b hb => ?_⟩
      cases b
      · exact ⟨_, mark, at_, fun h => absurd h (by decide), fun _ => rfl, w2 (v2 hb)⟩
      · exact ⟨_, mark, _, fun h => absurd h (by decide), fun _ => rfl, w3 (v3 hb)⟩
    · have hk2 : kind = 0 ∨ kind = 1 := by
        rcases hk with h | h | h | h
        · exact .inl h
        · exact .inr h
        · exact absurd h k4
        · exact absurd h k5
      obtain ⟨w1, w2⟩ := SW_01 (last := last) (mark := mark) (at_ := at_) hk2 hn hl
      have v := stepS_1 hk2 hs hx
      refine ⟨fun h => w1 (v.1 h), fun b hb => ?_⟩
      exact ⟨_, mark, at_, fun h => absurd h k4, fun h => absurd h k5, w2 (fun h0 => by rw [v.2 h0] at hb; exact absurd hb (by simp))⟩
theorem FW_S {kind : Int} (hk : kind = 0 ∨ kind = 1 ∨ kind = 4 ∨ kind = 5) (hkb : kindB kind = true) {xs : List Int} (hl : xs.length ≤ 1000) (hx : ∀ i : Nat, i < xs.length → -1 ≤ rd xs (i : Int) ∧ rd xs (i : Int) ≤ 1) :
    ∀ (d n : Nat) (s last mark at_ : Int), n + d = xs.length → sOK kind s → (kind = 4 → mark = s) → (kind = 5 → at_ = s) →
      ∃ r : Int, -1 ≤ r ∧ Ev (fun k => spec_l10Wrong.l0 k kind xs last mark at_ circL (n : Int)) r ∧
        Ev (fun k => impl_FirstWrong.l0 k kind xs (n : Int) kind (wLevel kind s) (wNext kind s) (wFrom kind s)) (if r < 0 then (0, false) else (r, true)) := by
  intro d
  induction d with
  | zero =>
    intro n s last mark at_ h hs h4 h5
    exact ⟨-1, by decide, SW_end (by omega), by rw [if_pos (by decide)]; exact FWi_end kind xs n (by omega) _ _ _ _⟩
  | succ d ih =>
    intro n s last mark at_ h hs h4 h5
    have hn : n < xs.length := by omega
    have hp : ¬ (kind = 2 ∨ kind = 3) := by omega
    have hxn := hx n hn
    obtain ⟨w1, w2⟩ := SW_S (last := last) hk hs h4 h5 hn hl hxn
    have hFW := FWi_S kind hkb hp xs hl n hn s hs
    generalize stepS kind s (rd xs (n : Int)) = o at w1 w2 hFW
    cases o with
    | none =>
      refine ⟨(n : Int), by omega, w1 rfl, ?_⟩
      rw [if_neg (show ¬ (n : Int) < 0 by omega)]
      exact hFW _ (fun _ => rfl) (fun b hb => absurd hb (by simp))
    | some b =>
      obtain ⟨last2, mark2, at2, g4, g5, g⟩ := w2 b rfl
      obtain ⟨r, hr, e1, e2⟩ := ih (n + 1) (lvNext kind s b) last2 mark2 at2 (by omega) (sOK_next hs b) g4 g5
      refine ⟨r, hr, g r e1, hFW _ (fun h' => absurd h' (by simp)) (fun b2 hb2 => ?_)⟩
      obtain rfl : b = b2 := by simpa using hb2
      exact e2
theorem SW_2 {kind : Int} (hk : kind = 2 ∨ kind = 3) {xs : List Int} {last mark at_ : Int} {n : Nat} (hn : n < xs.length) (hl : xs.length ≤ 1000) (hb : -1 ≤ last ∧ last ≤ 1) :
    (rd xs (n : Int) = 0 → Ev (fun k => spec_l10Wrong.l0 k kind xs last mark at_ circL (n : Int)) (n : Int)) ∧
    (rd xs (n : Int) ≠ 0 → n % 2 = 0 ∨ rd xs (n : Int) = -last → ∀ r, Ev (fun k => spec_l10Wrong.l0 k kind xs (rd xs (n : Int)) mark at_ circL ((n + 1 : Nat) : Int)) r → Ev (fun k => spec_l10Wrong.l0 k kind xs last mark at_ circL (n : Int)) r) ∧
    (rd xs (n : Int) ≠ 0 → n % 2 = 1 → rd xs (n : Int) ≠ -last → Ev (fun k => spec_l10Wrong.l0 k kind xs last mark at_ circL (n : Int)) (n : Int)) := by
  have hp : pairB kind = true := decide_eq_true hk
  have hw := w64_succ (show n < 9223372036854775807 by omega)
  have hw2 : wrap64 (-last) = -last := w64 (by omega) (by omega)
  have hm : Int.tmod (n : Int) 2 = ((n % 2 : Nat) : Int) := by rw [Int.tmod_eq_emod_of_nonneg (by omega)]; rfl
  refine ⟨fun h0 => ?_, fun h0 h1 r hr => ?_, fun h0 h1 h2 => ?_⟩
  · refine SW_enter hn ?_
    apply Ev.succ
    simp only [spec_l10Wrong.j1, hp]
    refine Ev.cond (fun _ => ?_) (fun h' => absurd (by trivial) h')
    exact Ev.cond (fun _ => Ev.now _) (fun h' => absurd h0 h')
  · refine SW_enter hn ?_
    apply Ev.succ
    simp only [spec_l10Wrong.j1, hp, hm, hw, hw2]
    refine Ev.cond (fun _ => ?_) (fun h' => absurd (by trivial) h')
    refine Ev.cond (fun h' => absurd h' h0) (fun _ => ?_)
    refine Ev.cond (fun _ => hr) (fun h' => ?_)
    have h3 : rd xs (n : Int) = -last := by
      rcases h1 with h1 | h1
      · rw [h1] at h'; exact absurd rfl h'
      · exact h1
    exact Ev.cond (fun _ => hr) (fun h' => absurd h3 h')
  · refine SW_enter hn ?_
    apply Ev.succ
    simp only [spec_l10Wrong.j1, hp, hm, hw, hw2]
    refine Ev.cond (fun _ => ?_) (fun h' => absurd (by trivial) h')
    refine Ev.cond (fun h' => absurd h' h0) (fun _ => ?_)
    refine Ev.cond (fun h' => absurd h' (by rw [h1]; decide)) (fun _ => ?_)
    exact Ev.cond (fun h' => absurd h' h2) (fun _ => Ev.now _)
theorem lvOut_two {kind s : Int} (hk : kind = 2 ∨ kind = 3) (hs : sOK kind s) : ∃ a : Int, (a = 1 ∨ a = -1) ∧ lvOut kind s false = [a, -a] ∧ lvOut kind s true = [-a, a] := by
  rcases hk with rfl | rfl <;> rcases hs with ⟨h, rfl⟩ | ⟨h, rfl | rfl⟩ | ⟨h, rfl⟩ | ⟨h, rfl | rfl⟩ | ⟨h, rfl | rfl⟩ | ⟨h, rfl | rfl | rfl | rfl⟩ <;> first | exact absurd h (by decide) | exact ⟨1, .inl rfl, by decide, by decide⟩ | exact ⟨-1, .inr rfl, by decide, by decide⟩
theorem mat22 (a b x y : Int) : matN [a, b] [x, y] = if a = x then (if b = y then 2 else 1) else 0 := by
  by_cases h : a = x
  · by_cases h2 : b = y
    · simp [matN, h, h2]
    · simp [matN, h, h2]
  · simp [matN, h]
theorem mat21 (a b x : Int) : matN [a, b] [x] = if a = x then 1 else 0 := by
  by_cases h : a = x
  · simp [matN, h]
  · simp [matN, h]
theorem seg2 {xs : List Int} {n : Nat} (h : n + 1 < xs.length) : (xs.take (min (n + 2) xs.length)).drop n = [rd xs (n : Int), rd xs ((n + 1 : Nat) : Int)] := by
  have e : n + 2 - n = 2 := by omega
  rw [Nat.min_eq_left (show n + 2 ≤ xs.length from h), List.drop_take, e, drop_rd (show n < xs.length from Nat.lt_of_succ_lt h), drop_rd h]
  rfl
theorem seg21 {xs : List Int} {n : Nat} (h : n + 1 = xs.length) : (xs.take (min (n + 2) xs.length)).drop n = [rd xs (n : Int)] := by
  have e : n + 1 - n = 1 := by omega
  have e2 : min (n + 2) xs.length = n + 1 := by omega
  rw [e2, List.drop_take, e, drop_rd (show n < xs.length by omega)]
  rfl
theorem FW_P {kind : Int} (hk : kind = 2 ∨ kind = 3) {xs : List Int} (hl : xs.length ≤ 1000) (hx : ∀ i : Nat, i < xs.length → -1 ≤ rd xs (i : Int) ∧ rd xs (i : Int) ≤ 1) :
    ∀ (d n : Nat) (s last mark at_ : Int), xs.length ≤ n + 2 * d → n % 2 = 0 → sOK kind s → (-1 ≤ last ∧ last ≤ 1) →
      ∃ r : Int, -1 ≤ r ∧ Ev (fun k => spec_l10Wrong.l0 k kind xs last mark at_ circL (n : Int)) r ∧
        Ev (fun k => impl_FirstWrong.l0 k kind xs (n : Int) kind (wLevel kind s) (wNext kind s) (wFrom kind s)) (if r < 0 then (0, false) else (r, true)) := by
  have hQ : perN kind = ((2 : Nat) : Int) := by unfold perN; rw [if_pos hk]; rfl
  have hQ2 : (if kind = 2 ∨ kind = 3 then 2 else 1) = 2 := by rw [if_pos hk]
  intro d
  induction d with
  | zero =>
    intro n s last mark at_ h h2 hs hla
    exact ⟨-1, by decide, SW_end (by omega), by rw [if_pos (by decide)]; exact FWi_end kind xs n (by omega) _ _ _ _⟩
  | succ d ih =>
    intro n s last mark at_ h h2 hs hla
    by_cases hn : n < xs.length
    · have hxn := hx n hn
      obtain ⟨a, ha, ea, eb⟩ := lvOut_two hk hs
      obtain ⟨w1, w2, w3⟩ := SW_2 (mark := mark) (at_ := at_) hk hn hl hla
      have st := FWi_step kind 2 hQ (.inr rfl) hQ2 xs hl n hn s hs
      rw [ea, eb] at st
      by_cases hn1 : n + 1 < xs.length
      · have hyn := hx (n + 1) hn1
        have hsg := seg2 hn1
        by_cases h0 : rd xs (n : Int) = 0
        · refine ⟨(n : Int), by omega, w1 h0, ?_⟩
          rw [if_neg (show ¬ (n : Int) < 0 by omega)]
          have e1 : matN [a, -a] [rd xs (n : Int), rd xs ((n + 1 : Nat) : Int)] = 0 := by rw [mat22, if_neg (by omega)]
          have e2 : matN [-a, a] [rd xs (n : Int), rd xs ((n + 1 : Nat) : Int)] = 0 := by rw [mat22, if_neg (by omega)]
          refine st _ hsg _ ?_ ?_ ?_
          · rw [e1, e2]; intro _; rfl
          · rw [e1, e2]; intro h'; exact absurd (by simp) h'
          · rw [e1, e2]; intro h'; exact absurd (by simp) h'
        · have hla2 : -1 ≤ rd xs (n : Int) ∧ rd xs (n : Int) ≤ 1 := hxn
          obtain ⟨v1, v2, v3⟩ := SW_2 (mark := mark) (at_ := at_) hk hn1 hl hla2
          by_cases hy : rd xs ((n + 1 : Nat) : Int) = -rd xs (n : Int)
          · by_cases hxa : rd xs (n : Int) = a
            · obtain ⟨r, hr, g1, g2⟩ := ih (n + 2) (lvNext kind s false) (rd xs ((n + 1 : Nat) : Int)) mark at_ (by omega) (by omega) (sOK_next hs _) hyn
              refine ⟨r, hr, w2 h0 (.inl h2) r (v2 (by omega) (.inr hy) r g1), ?_⟩
              have e1 : matN [a, -a] [rd xs (n : Int), rd xs ((n + 1 : Nat) : Int)] = 2 := by rw [mat22, if_pos hxa.symm, if_pos (by rw [hy, hxa])]
              have e2 : matN [-a, a] [rd xs (n : Int), rd xs ((n + 1 : Nat) : Int)] = 0 := by rw [mat22, if_neg (by omega)]
              refine st _ hsg _ ?_ ?_ ?_
              · rw [e1, e2]; intro h'; exact absurd h' (by simp)
              · rw [e1, e2]; intro _ h'; exact absurd h' (by decide)
              · intro _ _; exact g2
            · have hxa2 : rd xs (n : Int) = -a := by omega
              obtain ⟨r, hr, g1, g2⟩ := ih (n + 2) (lvNext kind s true) (rd xs ((n + 1 : Nat) : Int)) mark at_ (by omega) (by omega) (sOK_next hs _) hyn
              refine ⟨r, hr, w2 h0 (.inl h2) r (v2 (by omega) (.inr hy) r g1), ?_⟩
              have e1 : matN [a, -a] [rd xs (n : Int), rd xs ((n + 1 : Nat) : Int)] = 0 := by rw [mat22, if_neg (by omega)]
              have e2 : matN [-a, a] [rd xs (n : Int), rd xs ((n + 1 : Nat) : Int)] = 2 := by rw [mat22, if_pos hxa2.symm, if_pos (by omega)]
              refine st _ hsg _ ?_ ?_ ?_
              · rw [e1, e2]; intro h'; exact absurd h' (by simp)
              · intro _ _; exact g2
              · rw [e1, e2]; intro _ h'; exact absurd (by decide) h'
          · have es : Ev (fun k => spec_l10Wrong.l0 k kind xs (rd xs (n : Int)) mark at_ circL ((n + 1 : Nat) : Int)) ((n + 1 : Nat) : Int) := by
              by_cases hy0 : rd xs ((n + 1 : Nat) : Int) = 0
              · exact v1 hy0
              · exact v3 hy0 (by omega) hy
            refine ⟨((n + 1 : Nat) : Int), by omega, w2 h0 (.inl h2) _ es, ?_⟩
            rw [if_neg (show ¬ ((n + 1 : Nat) : Int) < 0 by omega)]
            have e3 : max (matN [a, -a] [rd xs (n : Int), rd xs ((n + 1 : Nat) : Int)]) (matN [-a, a] [rd xs (n : Int), rd xs ((n + 1 : Nat) : Int)]) = 1 := by
              by_cases hxa : rd xs (n : Int) = a
              · have e1 : matN [a, -a] [rd xs (n : Int), rd xs ((n + 1 : Nat) : Int)] = 1 := by rw [mat22, if_pos hxa.symm, if_neg (by omega)]
                have e2 : matN [-a, a] [rd xs (n : Int), rd xs ((n + 1 : Nat) : Int)] = 0 := by rw [mat22, if_neg (by omega)]
                rw [e1, e2]; rfl
              · have e1 : matN [a, -a] [rd xs (n : Int), rd xs ((n + 1 : Nat) : Int)] = 0 := by rw [mat22, if_neg (by omega)]
                have e2 : matN [-a, a] [rd xs (n : Int), rd xs ((n + 1 : Nat) : Int)] = 1 := by rw [mat22, if_pos (by omega), if_neg (by omega)]
                rw [e1, e2]; rfl
            refine st _ hsg _ ?_ ?_ ?_
            · rw [e3]; intro _; rfl
            · rw [e3]; intro h'; exact absurd (by simp) h'
            · rw [e3]; intro h'; exact absurd (by simp) h'
      · have hn2 : n + 1 = xs.length := by omega
        have hsg := seg21 hn2
        by_cases h0 : rd xs (n : Int) = 0
        · refine ⟨(n : Int), by omega, w1 h0, ?_⟩
          rw [if_neg (show ¬ (n : Int) < 0 by omega)]
          have e1 : matN [a, -a] [rd xs (n : Int)] = 0 := by rw [mat21, if_neg (by omega)]
          have e2 : matN [-a, a] [rd xs (n : Int)] = 0 := by rw [mat21, if_neg (by omega)]
          refine st _ hsg _ ?_ ?_ ?_
          · rw [e1, e2]; intro _; rfl
          · rw [e1, e2]; intro h'; exact absurd (by simp) h'
          · rw [e1, e2]; intro h'; exact absurd (by simp) h'
        · refine ⟨-1, by decide, w2 h0 (.inl h2) _ (SW_end (by omega)), ?_⟩
          rw [if_pos (by decide)]
          have e3 : max (matN [a, -a] [rd xs (n : Int)]) (matN [-a, a] [rd xs (n : Int)]) = 1 := by
            by_cases hxa : rd xs (n : Int) = a
            · have e1 : matN [a, -a] [rd xs (n : Int)] = 1 := by rw [mat21, if_pos hxa.symm]
              have e2 : matN [-a, a] [rd xs (n : Int)] = 0 := by rw [mat21, if_neg (by omega)]
              rw [e1, e2]; rfl
            · have e1 : matN [a, -a] [rd xs (n : Int)] = 0 := by rw [mat21, if_neg (by omega)]
              have e2 : matN [-a, a] [rd xs (n : Int)] = 1 := by rw [mat21, if_pos (by omega)]
              rw [e1, e2]; rfl
          refine st _ hsg _ ?_ ?_ ?_
          · rw [e3]; intro h'; exact absurd h' (by simp)
          · intro _ _; exact FWi_end kind xs (n + 2) (by omega) _ _ _ _
          · intro _ _; exact FWi_end kind xs (n + 2) (by omega) _ _ _ _
    · exact ⟨-1, by decide, SW_end (by omega), by rw [if_pos (by decide)]; exact FWi_end kind xs n (by omega) _ _ _ _⟩
theorem levelsB_rd {xs : List Int} (h : levelsB xs = true) : xs.length ≤ 1000 ∧ xs.length ≤ 800 ∧ ∀ i : Nat, i < xs.length → -1 ≤ rd xs (i : Int) ∧ rd xs (i : Int) ≤ 1 := by
  unfold levelsB at h
  rw [Bool.and_eq_true] at h
  have hl := of_decide_eq_true h.2
  refine ⟨by omega, hl, fun i hi => ?_⟩
  exact inAll_mem h.1 _ (rd_mem hi)
theorem FW_kind {kind : Int} (hk : kindB kind = true) {xs : List Int} (hx : levelsB xs = true) : ∃ r : Int, -1 ≤ r ∧
    Ev (fun k => spec_l10Wrong.l0 k kind xs (beforeN kind) 1 0 circL 0) r ∧
    Ev (fun k => impl_FirstWrong.l0 k kind xs 0 kind (beforeN kind) 1 (-1)) (if r < 0 then (0, false) else (r, true)) := by
  obtain ⟨hl, _, hin⟩ := levelsB_rd hx
  have hk' := kinds_of hk
  have e : beforeN kind = wLevel kind (lvStart kind) ∧ (1 : Int) = wNext kind (lvStart kind) ∧ (-1 : Int) = wFrom kind (lvStart kind) ∧ (kind = 4 → (1 : Int) = lvStart kind) ∧ (kind = 5 → (0 : Int) = lvStart kind) ∧ (-1 ≤ beforeN kind ∧ beforeN kind ≤ 1) := by
    rcases hk' with rfl | rfl | rfl | rfl | rfl | rfl <;> decide
  have hs := sOK_start hk'
  by_cases hp : kind = 2 ∨ kind = 3
  · have h := FW_P hp hl hin xs.length 0 (lvStart kind) (beforeN kind) 1 0 (by omega) (by decide) hs e.2.2.2.2.2
    rw [← e.1, ← e.2.1, ← e.2.2.1] at h
    exact h
  · have h := FW_S (kind := kind) (by omega) hk hl hin xs.length 0 (lvStart kind) (beforeN kind) 1 0 (by omega) hs e.2.2.2.1 e.2.2.2.2.1
    rw [← e.1, ← e.2.1, ← e.2.2.1] at h
    exact h
theorem FW_both {kind : Int} {xs : List Int} (hn : xs.length ≤ 1099511627776) : ∃ r : Int × Bool, Ev (fun k => spec_FirstWrong.f k kind xs) r ∧ Ev (fun k => impl_FirstWrong.f k kind xs) r := by
  by_cases hk : kindB kind = true
  · by_cases hx : levelsB xs = true
    · obtain ⟨hl, h8, _⟩ := levelsB_rd hx
      by_cases hg : pairB kind = true ∨ xs.length ≤ 400
      · obtain ⟨r, hr, g1, g2⟩ := FW_kind hk hx
        refine ⟨if r < 0 then (0, false) else (r, true), ?_, ?_⟩
        rotate_left
        · unfold impl_FirstWrong.f
          refine Ev.bind (Ev.const (isLine_eq kind)) ?_
          rw [hk]
          refine Ev.cond (fun _ => ?_) (fun h' => absurd (by trivial) h')
          refine Ev.bind (areLevels_ev xs hn) ?_
          rw [hx]
          refine Ev.cond (fun _ => ?_) (fun h' => absurd (by trivial) h')
          refine Ev.bind (Ev.const (perBit_eq kind)) ?_
          have hd : decide ((xs.length : Int) > wrap64 (400 * perN kind)) = false := by
            apply decide_eq_false
            by_cases hp : kind = 2 ∨ kind = 3
            · have : perN kind = 2 := by unfold perN; rw [if_pos hp]
              rw [this, show wrap64 (400 * 2) = 800 by decide +kernel]; omega
            · have : perN kind = 1 := by unfold perN; rw [if_neg hp]
              have h4 : xs.length ≤ 400 := hg.elim (fun g => absurd (of_decide_eq_true g) hp) id
              rw [this, show wrap64 (400 * 1) = 400 by decide +kernel]; omega
          rw [hd]
          apply Ev.succ
          simp only [impl_FirstWrong.j0]
          refine Ev.cond (fun h' => absurd h' (by decide)) (fun _ => ?_)
          exact Ev.bind (Ev.const (newWire_eq kind)) g2
        · unfold spec_FirstWrong.f
          refine Ev.bind (Ev.const (l10Kind_eq kind)) ?_
          rw [hk]
          refine Ev.cond (fun _ => ?_) (fun h' => absurd (by trivial) h')
          refine Ev.bind (l10Is_ev xs hn) ?_
          rw [hx]
          refine Ev.cond (fun _ => ?_) (fun h' => absurd (by trivial) h')
          refine Ev.bind (Ev.const (l10Double_eq kind)) ?_
          have fin : Ev (fun k => spec_FirstWrong.j0 k kind xs false) (if r < 0 then (0, false) else (r, true)) := by
            apply Ev.succ
            simp only [spec_FirstWrong.j0]
            refine Ev.cond (fun h' => absurd h' (by decide)) (fun _ => ?_)
            have g3 : Ev (fun k => spec_l10Wrong.f k kind xs) r := by
              unfold spec_l10Wrong.f
              exact Ev.bind (Ev.const (l10Before_eq kind)) g1
            refine Ev.bind g3 ?_
            by_cases h0 : r < 0
            · rw [if_pos h0, if_pos h0]; exact Ev.now _
            · rw [if_neg h0, if_neg h0]; exact Ev.now _
          by_cases hp : pairB kind = true
          · exact Ev.cond (fun _ => fin) (fun h' => absurd hp h')
          · refine Ev.cond (fun h' => absurd h' hp) (fun _ => ?_)
            have h4 : xs.length ≤ 400 := hg.elim (fun g => absurd g hp) id
            have hd : decide ((xs.length : Int) > 400) = false := decide_eq_false (by omega)
            rw [hd]
            exact fin
      · have hp : ¬ (kind = 2 ∨ kind = 3) := fun h => hg (.inl (decide_eq_true h))
        have hp2 : pairB kind = false := decide_eq_false hp
        have h4 : ¬ xs.length ≤ 400 := fun h => hg (.inr h)
        refine ⟨(0, false), ?_, ?_⟩
        · unfold spec_FirstWrong.f
          refine Ev.bind (Ev.const (l10Kind_eq kind)) ?_
          rw [hk]
          refine Ev.cond (fun _ => ?_) (fun h' => absurd (by trivial) h')
          refine Ev.bind (l10Is_ev xs hn) ?_
          rw [hx]
          refine Ev.cond (fun _ => ?_) (fun h' => absurd (by trivial) h')
          refine Ev.bind (Ev.const (l10Double_eq kind)) ?_
          rw [hp2]
          refine Ev.cond (fun h' => absurd h' (by decide)) (fun _ => ?_)
          have hd : decide ((xs.length : Int) > 400) = true := decide_eq_true (by omega)
          rw [hd]
          apply Ev.succ
          simp only [spec_FirstWrong.j0]
          exact Ev.cond (fun _ => Ev.now _) (fun h' => absurd (by trivial) h')
        · unfold impl_FirstWrong.f
          refine Ev.bind (Ev.const (isLine_eq kind)) ?_
          rw [hk]
          refine Ev.cond (fun _ => ?_) (fun h' => absurd (by trivial) h')
          refine Ev.bind (areLevels_ev xs hn) ?_
          rw [hx]
          refine Ev.cond (fun _ => ?_) (fun h' => absurd (by trivial) h')
          refine Ev.bind (Ev.const (perBit_eq kind)) ?_
          have hq : perN kind = 1 := by unfold perN; rw [if_neg hp]
          have hd : decide ((xs.length : Int) > wrap64 (400 * perN kind)) = true := by
            rw [hq, show wrap64 (400 * 1) = 400 by decide +kernel]; exact decide_eq_true (by omega)
          rw [hd]
          apply Ev.succ
          simp only [impl_FirstWrong.j0]
          exact Ev.cond (fun _ => Ev.now _) (fun h' => absurd (by trivial) h')
    · have hx' := eq_false_of_ne_true hx
      refine ⟨(0, false), ?_, ?_⟩
      · unfold spec_FirstWrong.f
        refine Ev.bind (Ev.const (l10Kind_eq kind)) ?_
        rw [hk]
        refine Ev.cond (fun _ => ?_) (fun h' => absurd (by trivial) h')
        refine Ev.bind (l10Is_ev xs hn) ?_
        rw [hx']
        refine Ev.cond (fun h' => absurd h' (by decide)) (fun _ => ?_)
        apply Ev.succ
        simp only [spec_FirstWrong.j0]
        exact Ev.cond (fun _ => Ev.now _) (fun h' => absurd (by trivial) h')
      · unfold impl_FirstWrong.f
        refine Ev.bind (Ev.const (isLine_eq kind)) ?_
        rw [hk]
        refine Ev.cond (fun _ => ?_) (fun h' => absurd (by trivial) h')
        refine Ev.bind (areLevels_ev xs hn) ?_
        rw [hx']
        refine Ev.cond (fun h' => absurd h' (by decide)) (fun _ => ?_)
        apply Ev.succ
        simp only [impl_FirstWrong.j0]
        exact Ev.cond (fun _ => Ev.now _) (fun h' => absurd (by trivial) h')
  · have hk' := eq_false_of_ne_true hk
    refine ⟨(0, false), ?_, ?_⟩
    · unfold spec_FirstWrong.f
      refine Ev.bind (Ev.const (l10Kind_eq kind)) ?_
      rw [hk']
      refine Ev.cond (fun h' => absurd h' (by decide)) (fun _ => ?_)
      apply Ev.succ
      simp only [spec_FirstWrong.j0]
      exact Ev.cond (fun _ => Ev.now _) (fun h' => absurd (by trivial) h')
    · unfold impl_FirstWrong.f
      refine Ev.bind (Ev.const (isLine_eq kind)) ?_
      rw [hk']
      refine Ev.cond (fun h' => absurd h' (by decide)) (fun _ => ?_)
      apply Ev.succ
      simp only [impl_FirstWrong.j0]
      exact Ev.cond (fun _ => Ev.now _) (fun h' => absurd (by trivial) h')
theorem FnExactFirstWrong : laws_FnExactFirstWrong.Pure := by
  intro kind xs _ _ hx8 _
  refine Ev.rounds ?_
  unfold laws_FnExactFirstWrong.f
  by_cases hc : (xs.length : Int) > 1048576
  · exact Ev.cond (fun _ => Ev.now _) (fun h' => absurd hc h')
  · refine Ev.cond (fun h' => absurd h' hc) (fun _ => ?_)
    have hn : xs.length ≤ 1099511627776 := by omega
    obtain ⟨r, g1, g2⟩ := FW_both (kind := kind) hn
    refine Ev.bind (toInt64S_ev xs hn) (Ev.bind g1 (Ev.bind (toInt64S_ev xs hn) (Ev.bind g2 ?_)))
    refine Ev.cond (fun _ => ?_) (fun h' => absurd rfl h')
    rw [show (r.2 != r.2) = false by simp]
    apply Ev.succ
    simp only [laws_FnExactFirstWrong.j0]
    refine Ev.cond (fun h' => absurd h' (by decide)) (fun _ => ?_)
    refine Ev.bind (toInt64S_ev xs hn) (Ev.bind (eqInt64S_same xs hn) ?_)
    exact Ev.cond (fun _ => Ev.now _) (fun h' => absurd (by trivial) h')

end Go.Proofs.Ytbgiddnffchnpaa.Pure
