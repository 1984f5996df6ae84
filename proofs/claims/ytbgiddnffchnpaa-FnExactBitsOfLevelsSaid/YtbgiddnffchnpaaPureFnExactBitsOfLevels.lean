/- For every kind of line and every list of levels the program's BitsOfLevels answers what the reference's does. -/
import Derived.Test.YtbgiddnffchnpaaQFnExactBitsOfLevelsx6
import Derived.Test.YtbgiddnffchnpaaBase
import Derived.Test.YtbgiddnffchnpaaLevels
namespace Go.Proofs.Ytbgiddnffchnpaa.Pure
open Go.RowKit Go.Proofs.Ytbgiddnffchnpaa.QFnExactBitsOfLevels Go.Proofs.Ytbgiddnffchnpaa.Base Go.Proofs.YtbgiddnffchnpaaW.PrintWords Go.Proofs.YtbgiddnffchnpaaW.PrintLast Go.Proofs.YtbgiddnffchnpaaW.PrintMore
open Go.Proofs.Ytbgiddnffchnpaa.Levels
set_option linter.unusedVariables false
set_option linter.unusedSimpArgs false

/-! within -/
theorem within_eq (a b c : Int) : impl_within.f a b c = some (decide (b ≤ a ∧ a ≤ c)) := by
  unfold impl_within.f
  by_cases h : b ≤ a
  · simp [h, ge_iff_le]
  · simp [h, ge_iff_le]

/-! l00In -/
theorem l00In_eq (a b c : Int) : spec_l00In.f a b c = some (decide (b ≤ a ∧ a ≤ c)) := by
  unfold spec_l00In.f
  by_cases h : b ≤ a
  · simp [h, ge_iff_le]
  · simp [h, ge_iff_le]

/-! lineKinds -/
def kindB (kind : Int) : Bool := decide (0 ≤ kind ∧ kind ≤ 5)
def pairB (kind : Int) : Bool := decide (kind = 2 ∨ kind = 3)
def perN (kind : Int) : Int := if kind = 2 ∨ kind = 3 then 2 else 1
theorem kinds_of {kind : Int} (h : kindB kind = true) : kind = 0 ∨ kind = 1 ∨ kind = 2 ∨ kind = 3 ∨ kind = 4 ∨ kind = 5 := by
  have h := of_decide_eq_true h
  omega
theorem isLine_eq (kind : Int) : impl_isLine.f kind = some (kindB kind) := by
  unfold impl_isLine.f kindB
  rw [within_eq]; rfl
theorem l10Kind_eq (kind : Int) : spec_l10Kind.f kind = some (kindB kind) := by
  unfold spec_l10Kind.f kindB
  rw [l00In_eq]; rfl
theorem isPaired_eq (kind : Int) : impl_isPaired.f kind = some (pairB kind) := by
  unfold impl_isPaired.f pairB
  by_cases h : kind = 2
  · simp [h]
  · by_cases h3 : kind = 3
    · simp [h3]
    · simp [h, h3]

/-! lineMore -/
theorem perBit_eq (kind : Int) : impl_perBit.f kind = some (perN kind) := by
  unfold impl_perBit.f perN
  rw [isPaired_eq]
  unfold pairB
  by_cases h : kind = 2 ∨ kind = 3
  · simp [h]
  · simp [h]
theorem l10Double_eq (kind : Int) : spec_l10Double.f kind = some (pairB kind) := by
  unfold spec_l10Double.f pairB
  by_cases h : kind = 2
  · simp [h]
  · by_cases h3 : kind = 3
    · simp [h3]
    · simp [h, h3]
def beforeN (kind : Int) : Int := if kind = 1 ∨ kind = 3 then -1 else 0
theorem newWire_eq (kind : Int) : impl_newWire.f kind = some (kind, beforeN kind, 1, -1) := by
  unfold impl_newWire.f beforeN
  by_cases h : kind = 1
  · simp [h]
  · by_cases h3 : kind = 3
    · simp [h3]
    · simp [h, h3]
theorem l10Before_eq (kind : Int) : spec_l10Before.f kind = some (beforeN kind) := by
  unfold spec_l10Before.f beforeN
  by_cases h : kind = 1
  · simp [h]
  · by_cases h3 : kind = 3
    · simp [h3]
    · simp [h, h3]
theorem bitOf_eq (b : Bool) : impl_bitOf.f b = some (bitStr b) := by cases b <;> rfl

/-! areIn -/
theorem areIn_l0 (lo hi : Int) (xs : List Int) (hn : xs.length ≤ 1099511627776) : ∀ d n, n + d = xs.length → Ev (fun k => impl_areIn.l0 k lo hi xs (xs.length : Int) (n : Int)) (inAll lo hi (xs.drop n)) := by
  intro d
  induction d with
  | zero =>
    intro n h
    apply Ev.succ
    have h1 : ¬ ((n : Int) < (xs.length : Int)) := by omega
    have h2 : xs.drop n = [] := List.drop_eq_nil_of_le (by omega)
    simp only [impl_areIn.l0, h1, if_false, h2]
    exact Ev.now true
  | succ d ih =>
    intro n h
    apply Ev.succ
    have h1 : (n : Int) < (xs.length : Int) := by omega
    have h2 : (0 : Int) ≤ (n : Int) := by omega
    have h3 := ih (n + 1) (by omega)
    rw [drop_rd (show n < xs.length by omega), inAll_cons]
    simp only [impl_areIn.l0, h1, h2, if_true, within_eq, Option.bind_some, w64_succ (show n < 9223372036854775807 by omega)]
    by_cases hc : lo ≤ rd xs (n : Int) ∧ rd xs (n : Int) ≤ hi
    · simp only [hc, decide_true, if_true, Bool.true_and, and_self]; exact h3
    · simp only [hc, decide_false, Bool.false_and, Bool.false_eq_true, if_false]; exact Ev.now false
theorem areIn_ev (lo hi : Int) (xs : List Int) (hn : xs.length ≤ 1099511627776) : Ev (fun k => impl_areIn.f k xs lo hi) (inAll lo hi xs) := by
  have h := areIn_l0 lo hi xs hn xs.length 0 (by omega)
  exact h

/-! areLevels -/
theorem areLevels_ev (xs : List Int) (hn : xs.length ≤ 1099511627776) : Ev (fun k => impl_areLevels.f k xs) (levelsB xs) := by
  unfold impl_areLevels.f levelsB
  by_cases h : xs.length ≤ 800
  · have h1 : (xs.length : Int) ≤ 800 := by omega
    simp only [h1, if_true, h, decide_true, Bool.and_true]
    exact Ev.bind (areIn_ev (-1) 1 xs hn) (Ev.now _)
  · have h1 : ¬ (xs.length : Int) ≤ 800 := by omega
    simp only [h1, if_false, h, decide_false, Bool.and_false]
    exact Ev.now _

/-! l10Is -/
theorem l10Is_l0 (xs : List Int) (hn : xs.length ≤ 1099511627776) : ∀ d n, n + d = xs.length → Ev (fun k => spec_l10Is.l0 k xs (n : Int)) (inAll (-1) 1 (xs.drop n) && decide (xs.length ≤ 800)) := by
  intro d
  induction d with
  | zero =>
    intro n h
    apply Ev.succ
    have h1 : ¬ ((n : Int) < (xs.length : Int)) := by omega
    have h2 : xs.drop n = [] := List.drop_eq_nil_of_le (by omega)
    have h3 : ((xs.length : Int) ≤ 800) = (xs.length ≤ 800) := propext ⟨fun h => by omega, fun h => by omega⟩
    simp only [spec_l10Is.l0, h1, if_false, h2, h3]
    exact Ev.now _
  | succ d ih =>
    intro n h
    apply Ev.succ
    have h1 : (n : Int) < (xs.length : Int) := by omega
    have h2 : (0 : Int) ≤ (n : Int) := by omega
    have h3 := ih (n + 1) (by omega)
    rw [drop_rd (show n < xs.length by omega), inAll_cons]
    simp only [spec_l10Is.l0, h1, h2, if_true, l00In_eq, Option.bind_some, w64_succ (show n < 9223372036854775807 by omega)]
    by_cases hc : (-1) ≤ rd xs (n : Int) ∧ rd xs (n : Int) ≤ 1
    · simp only [hc, decide_true, if_true, Bool.true_and, and_self]; exact h3
    · simp only [hc, decide_false, Bool.false_and, Bool.false_eq_true, if_false]; exact Ev.now false
theorem l10Is_ev (xs : List Int) (hn : xs.length ≤ 1099511627776) : Ev (fun k => spec_l10Is.f k xs) (levelsB xs) := by
  have h := l10Is_l0 xs hn xs.length 0 (by omega)
  exact h

/-! canRead -/
def canB (kind : Int) (xs : List Int) : Bool := kindB kind && levelsB xs && (if kind = 2 ∨ kind = 3 then decide (xs.length % 2 = 0) else decide (xs.length ≤ 400))
theorem canRead_ev (kind : Int) (xs : List Int) (hn : xs.length ≤ 1099511627776) : Ev (fun k => impl_canRead.f k kind xs) (canB kind xs) := by
  unfold impl_canRead.f canB
  simp only [isLine_eq, Option.bind_some]
  by_cases h1 : kindB kind = true
  · simp only [h1, if_true, Bool.true_and]
    refine Ev.bind (areLevels_ev xs hn) ?_
    by_cases h2 : levelsB xs = true
    · have hl : xs.length ≤ 800 := by
        unfold levelsB at h2; rw [Bool.and_eq_true] at h2; exact of_decide_eq_true h2.2
      simp only [h2, if_true, Bool.true_and, perBit_eq, Option.bind_some]
      by_cases h3 : kind = 2 ∨ kind = 3
      · have hp : perN kind = 2 := by unfold perN; rw [if_pos h3]
        have hw : wrap64 ((xs.length : Int) / 2) = (xs.length : Int) / 2 := w64 (by omega) (by omega)
        have h5 : ((xs.length : Int) / 2 ≤ 400) = True := by simp only [eq_iff_iff, iff_true]; omega
        simp only [h3, if_true, hp, Int.reduceEq, if_false, hw, h5, decide_true]
        by_cases h4 : xs.length % 2 = 0
        · have h4' : (xs.length : Int) % 2 = 0 := by omega
          simp only [h4, h4', if_true, decide_true]; exact Ev.now _
        · have h4' : ¬ (xs.length : Int) % 2 = 0 := by omega
          simp only [h4, h4', if_false, decide_false]; exact Ev.now _
      · have hp : perN kind = 1 := by unfold perN; rw [if_neg h3]
        have hw : wrap64 ((xs.length : Int) / 1) = (xs.length : Int) := by rw [Int.ediv_one]; exact w64 (by omega) (by omega)
        have h4 : (xs.length : Int) % 1 = 0 := by omega
        have h5 : ((xs.length : Int) ≤ 400) = (xs.length ≤ 400) := propext ⟨fun h => by omega, fun h => by omega⟩
        simp only [h3, if_false, hp, Int.reduceEq, hw, h4, if_true, h5]; exact Ev.now _
    · simp only [h2, if_false, Bool.false_and]; exact Ev.now _
  · simp only [h1, Bool.false_eq_true, if_false, Bool.false_and]; exact Ev.now _
theorem l10Whole_ev (kind : Int) (xs : List Int) (hn : xs.length ≤ 1099511627776) : Ev (fun k => spec_l10Whole.f k kind xs) (canB kind xs) := by
  unfold spec_l10Whole.f canB
  simp only [l10Kind_eq, Option.bind_some]
  by_cases h1 : kindB kind = true
  · simp only [h1, if_true, Bool.true_and]
    refine Ev.bind (l10Is_ev xs hn) ?_
    by_cases h2 : levelsB xs = true
    · have hl : xs.length ≤ 800 := by
        unfold levelsB at h2; rw [Bool.and_eq_true] at h2; exact of_decide_eq_true h2.2
      simp only [h2, Bool.not_true, Bool.true_and]
      apply Ev.succ
      have h8 : (xs.length : Int) ≤ 800 := by omega
      simp only [spec_l10Whole.j0, Bool.false_eq_true, if_false, l10Double_eq, Option.bind_some, h8, decide_true]
      by_cases h3 : kind = 2 ∨ kind = 3
      · have hp : pairB kind = true := decide_eq_true h3
        simp only [h3, if_true, hp]
        by_cases h4 : xs.length % 2 = 0
        · have h4' : (xs.length : Int) % 2 = 0 := by omega
          simp only [h4, h4', if_true, decide_true]; exact Ev.now _
        · have h4' : ¬ (xs.length : Int) % 2 = 0 := by omega
          simp only [h4, h4', if_false, decide_false]; exact Ev.now _
      · have hp : pairB kind = false := decide_eq_false h3
        simp only [h3, if_false, hp, Bool.false_eq_true]
        by_cases h4 : xs.length ≤ 400
        · have h4' : (xs.length : Int) ≤ 400 := by omega
          simp only [h4, h4', if_true, decide_true]; exact Ev.now _
        · have h4' : ¬ (xs.length : Int) ≤ 400 := by omega
          simp only [h4, h4', if_false, decide_false]; exact Ev.now _
    · have h2' := eq_false_of_ne_true h2
      simp only [h2', Bool.not_false, Bool.false_and]
      apply Ev.succ
      simp only [spec_l10Whole.j0, if_true]; exact Ev.now _
  · have h1' := eq_false_of_ne_true h1
    simp only [h1', Bool.false_eq_true, if_false, Bool.false_and]
    apply Ev.succ
    simp only [spec_l10Whole.j0, if_true]; exact Ev.now _
theorem canB_pair {kind : Int} {xs : List Int} (h : canB kind xs = true) : kindB kind = true ∧ levelsB xs = true ∧ (pairB kind = true → xs.length % 2 = 0) := by
  unfold canB at h
  rw [Bool.and_eq_true, Bool.and_eq_true] at h
  refine ⟨h.1.1, h.1.2, fun hp => ?_⟩
  have hp := of_decide_eq_true hp
  rw [if_pos hp] at h
  exact of_decide_eq_true h.2

/-! readLevels -/
/-- What levels are read as: kinds with one level a bit, kinds with two. -/
def readS (kind last : Int) : List Int → List Int
  | [] => []
  | x :: r => bitN (if kind = 0 then x == 1 else if kind = 4 then x != 0 else x != last) :: readS kind x r
def readP (kind last : Int) : List Int → List Int
  | x :: y :: r => bitN (if kind = 3 then x == last else decide (x < y)) :: readP kind y r
  | _ => []
def readN (kind : Int) (xs : List Int) : List Int := if kind = 2 ∨ kind = 3 then readP kind (beforeN kind) xs else readS kind (beforeN kind) xs
theorem drop_two {xs : List Int} {n : Nat} (h : n + 1 < xs.length) : xs.drop n = rd xs (n : Int) :: rd xs ((n + 1 : Nat) : Int) :: xs.drop (n + 2) := by
  rw [drop_rd (show n < xs.length by omega), drop_rd h]
theorem rl_tail {kind : Int} {Q : Nat} (hQ : perN kind = (Q : Int)) (hQ1 : 1 ≤ Q) (hQ2 : Q ≤ 2) {xs c : List Int} {n : Nat} {b : Bool} {r : ByteArray} (hlen : n + Q ≤ xs.length) (hx : xs.length ≤ 1099511627776) (hc : c.length ≤ n)
    (h : Ev (fun k => impl_readLevels.l0 k kind xs (c ++ [bitN b]) (rd xs ((n + Q - 1 : Nat) : Int)) ((n + Q : Nat) : Int)) r) :
    Ev (fun k => (impl_perBit.f kind).bind fun t => (if 0 ≤ (wrap64 ((wrap64 ((n : Int) + t)) - 1)) then (if (wrap64 ((wrap64 ((n : Int) + t)) - 1)) < (xs.length : Int) then ((impl_bitOf.f b).bind fun t' => (if c.length + t'.size < 140737488355328 then ((impl_perBit.f kind).bind fun t'' => (impl_readLevels.l0 k kind xs (c ++ bytesOf t') (rd xs (wrap64 ((wrap64 ((n : Int) + t)) - 1))) (wrap64 ((n : Int) + t'')))) else (none))) else (none)) else (none))) r := by
  refine Ev.bind (Ev.const (perBit_eq kind)) ?_
  have e1 : wrap64 ((n : Int) + (Q : Int)) = ((n + Q : Nat) : Int) := by rw [w64 (by omega) (by omega)]; omega
  have e2 : wrap64 (((n + Q : Nat) : Int) - 1) = ((n + Q - 1 : Nat) : Int) := by rw [w64 (by omega) (by omega)]; omega
  rw [hQ, e1, e2]
  refine Ev.cond (fun _ => ?_) (fun h' => absurd (by omega) h')
  refine Ev.cond (fun _ => ?_) (fun h' => absurd (by omega) h')
  refine Ev.bind (Ev.const (bitOf_eq b)) ?_
  refine Ev.cond (fun _ => ?_) (fun h' => absurd (by rw [bitStr_size]; omega) h')
  refine Ev.bind (Ev.const (perBit_eq kind)) ?_
  rw [hQ, e1, bytesOf_bitStr]
  exact h
theorem sr_j2S {kind : Int} (hk : pairB kind = false) {xs c : List Int} {last x : Int} {n : Nat} {b : Bool} {r : ByteArray} (hlen : n < xs.length) (hx : xs.length ≤ 1099511627776) (hc : c.length ≤ n)
    (h : Ev (fun k => spec_l10Read.l0 k kind xs (c ++ [bitN b]) (rd xs (n : Int)) ((n + 1 : Nat) : Int)) r) : Ev (fun k => spec_l10Read.j2 k kind xs c last (n : Int) x b) r := by
  apply Ev.succ
  simp only [spec_l10Read.j2]
  refine Ev.bind (Ev.const (l10Double_eq kind)) ?_
  rw [hk]
  refine Ev.cond (fun h' => absurd h' (by decide)) (fun _ => ?_)
  refine Ev.cond (fun _ => ?_) (fun h' => absurd (by omega) h')
  refine Ev.cond (fun _ => ?_) (fun h' => absurd (by omega) h')
  have hw := w64_succ (show n < 9223372036854775807 by omega)
  rw [hw]
  cases b
  · refine Ev.cond (fun h' => absurd h' (by decide)) (fun _ => ?_)
    exact Ev.cond (fun _ => h) (fun h' => absurd (by omega) h')
  · refine Ev.cond (fun _ => ?_) (fun h' => absurd (by decide) h')
    exact Ev.cond (fun _ => h) (fun h' => absurd (by omega) h')
theorem readLevels_S (kind : Int) (hk : kind = 0 ∨ kind = 1 ∨ kind = 4 ∨ kind = 5) (xs : List Int) (hn : xs.length ≤ 1099511627776) : ∀ (d n : Nat) (c : List Int) (last : Int), c.length ≤ n → n + d = xs.length →
    Ev (fun k => spec_l10Read.l0 k kind xs c last (n : Int)) (strOfNums (c ++ readS kind last (xs.drop n))) ∧ Ev (fun k => impl_readLevels.l0 k kind xs c last (n : Int)) (strOfNums (c ++ readS kind last (xs.drop n))) := by
  have hp : perN kind = ((1 : Nat) : Int) := by unfold perN; rw [if_neg (by omega)]; rfl
  have hq : pairB kind = false := decide_eq_false (by omega)
  intro d
  induction d with
  | zero =>
    intro n c last hc h
    have h1 : ¬ ((n : Int) < (xs.length : Int)) := by omega
    have h2 : xs.drop n = [] := List.drop_eq_nil_of_le (by omega)
    rw [h2]
    simp only [readS, List.append_nil]
    refine ⟨Ev.succ ?_, Ev.succ ?_⟩
    · simp only [spec_l10Read.l0, h1, if_false]; exact Ev.now _
    · simp only [impl_readLevels.l0, h1, if_false]; exact Ev.now _
  | succ d ih =>
    intro n c last hc h
    have h1 : (n : Int) < (xs.length : Int) := by omega
    have h2 : (0 : Int) ≤ (n : Int) := by omega
    rw [drop_rd (show n < xs.length by omega)]
    simp only [readS]
    have key : ∀ b : Bool, b = (if kind = 0 then rd xs (n : Int) == 1 else if kind = 4 then rd xs (n : Int) != 0 else rd xs (n : Int) != last) →
        Ev (fun k => spec_l10Read.l0 k kind xs (c ++ [bitN b]) (rd xs (n : Int)) ((n + 1 : Nat) : Int)) (strOfNums (c ++ bitN (if kind = 0 then rd xs (n : Int) == 1 else if kind = 4 then rd xs (n : Int) != 0 else rd xs (n : Int) != last) :: readS kind (rd xs (n : Int)) (xs.drop (n + 1)))) ∧
        Ev (fun k => impl_readLevels.l0 k kind xs (c ++ [bitN b]) (rd xs ((n + 1 - 1 : Nat) : Int)) ((n + 1 : Nat) : Int)) (strOfNums (c ++ bitN (if kind = 0 then rd xs (n : Int) == 1 else if kind = 4 then rd xs (n : Int) != 0 else rd xs (n : Int) != last) :: readS kind (rd xs (n : Int)) (xs.drop (n + 1)))) := by
      intro b hb
      have h3 := ih (n + 1) (c ++ [bitN b]) (rd xs (n : Int)) (by simp; omega) (by omega)
      rw [List.append_assoc] at h3
      rw [← hb]
      exact h3
    rcases hk with rfl | rfl | rfl | rfl
    · obtain ⟨k1, k2⟩ := key (rd xs (n : Int) == 1) (by rw [if_pos rfl])
      refine ⟨Ev.succ ?_, Ev.succ ?_⟩
      · simp only [spec_l10Read.l0]
        refine Ev.cond (fun _ => ?_) (fun h' => absurd h1 h')
        refine Ev.cond (fun _ => ?_) (fun h' => absurd h2 h')
        refine Ev.cond (fun _ => ?_) (fun h' => absurd (by decide) h')
        exact sr_j2S hq (by omega) hn hc k1
      · simp only [impl_readLevels.l0]
        refine Ev.cond (fun _ => ?_) (fun h' => absurd h1 h')
        refine Ev.cond (fun _ => ?_) (fun h' => absurd h2 h')
        refine Ev.cond (fun _ => ?_) (fun h' => absurd (by decide) h')
        exact rl_tail hp (by omega) (by omega) (by omega) hn hc k2
    · obtain ⟨k1, k2⟩ := key (rd xs (n : Int) != last) (by rw [if_neg (by decide), if_neg (by decide)])
      refine ⟨Ev.succ ?_, Ev.succ ?_⟩
      · simp only [spec_l10Read.l0]
        refine Ev.cond (fun _ => ?_) (fun h' => absurd h1 h')
        refine Ev.cond (fun _ => ?_) (fun h' => absurd h2 h')
        refine Ev.cond (fun h' => absurd h' (by decide)) (fun _ => ?_)
        refine Ev.cond (fun _ => Ev.succ ?_) (fun h' => absurd (by decide) h')
        simp only [spec_l10Read.j1]
        refine Ev.cond (fun _ => ?_) (fun h' => absurd (by decide) h')
        exact sr_j2S hq (by omega) hn hc k1
      · simp only [impl_readLevels.l0]
        refine Ev.cond (fun _ => ?_) (fun h' => absurd h1 h')
        refine Ev.cond (fun _ => ?_) (fun h' => absurd h2 h')
        refine Ev.cond (fun h' => absurd h' (by decide)) (fun _ => ?_)
        refine Ev.cond (fun _ => Ev.succ ?_) (fun h' => absurd (by decide) h')
        simp only [impl_readLevels.j1]
        refine Ev.cond (fun _ => ?_) (fun h' => absurd (by decide) h')
        exact rl_tail hp (by omega) (by omega) (by omega) hn hc k2
    · obtain ⟨k1, k2⟩ := key (rd xs (n : Int) != 0) (by rw [if_neg (by decide), if_pos rfl])
      refine ⟨Ev.succ ?_, Ev.succ ?_⟩
      · simp only [spec_l10Read.l0]
        refine Ev.cond (fun _ => ?_) (fun h' => absurd h1 h')
        refine Ev.cond (fun _ => ?_) (fun h' => absurd h2 h')
        refine Ev.cond (fun h' => absurd h' (by decide)) (fun _ => ?_)
        refine Ev.cond (fun h' => absurd h' (by decide)) (fun _ => Ev.succ ?_)
        simp only [spec_l10Read.j1]
        refine Ev.cond (fun h' => absurd h' (by decide)) (fun _ => ?_)
        refine Ev.cond (fun _ => ?_) (fun h' => absurd (by decide) h')
        exact sr_j2S hq (by omega) hn hc k1
      · simp only [impl_readLevels.l0]
        refine Ev.cond (fun _ => ?_) (fun h' => absurd h1 h')
        refine Ev.cond (fun _ => ?_) (fun h' => absurd h2 h')
        refine Ev.cond (fun h' => absurd h' (by decide)) (fun _ => ?_)
        refine Ev.cond (fun h' => absurd h' (by decide)) (fun _ => Ev.succ ?_)
        simp only [impl_readLevels.j1]
        refine Ev.cond (fun h' => absurd h' (by decide)) (fun _ => ?_)
        refine Ev.cond (fun h' => absurd h' (by decide)) (fun _ => ?_)
        refine Ev.cond (fun h' => absurd h' (by decide)) (fun _ => ?_)
        refine Ev.cond (fun _ => ?_) (fun h' => absurd (by decide) h')
        exact rl_tail hp (by omega) (by omega) (by omega) hn hc k2
    · obtain ⟨k1, k2⟩ := key (rd xs (n : Int) != last) (by rw [if_neg (by decide), if_neg (by decide)])
      refine ⟨Ev.succ ?_, Ev.succ ?_⟩
      · simp only [spec_l10Read.l0]
        refine Ev.cond (fun _ => ?_) (fun h' => absurd h1 h')
        refine Ev.cond (fun _ => ?_) (fun h' => absurd h2 h')
        refine Ev.cond (fun h' => absurd h' (by decide)) (fun _ => ?_)
        refine Ev.cond (fun h' => absurd h' (by decide)) (fun _ => Ev.succ ?_)
        simp only [spec_l10Read.j1]
        refine Ev.cond (fun _ => ?_) (fun h' => absurd (by decide) h')
        exact sr_j2S hq (by omega) hn hc k1
      · simp only [impl_readLevels.l0]
        refine Ev.cond (fun _ => ?_) (fun h' => absurd h1 h')
        refine Ev.cond (fun _ => ?_) (fun h' => absurd h2 h')
        refine Ev.cond (fun h' => absurd h' (by decide)) (fun _ => ?_)
        refine Ev.cond (fun h' => absurd h' (by decide)) (fun _ => Ev.succ ?_)
        simp only [impl_readLevels.j1]
        refine Ev.cond (fun _ => ?_) (fun h' => absurd (by decide) h')
        exact rl_tail hp (by omega) (by omega) (by omega) hn hc k2
theorem readLevels_P (kind : Int) (hk : kind = 2 ∨ kind = 3) (xs : List Int) (hn : xs.length ≤ 1099511627776) : ∀ (d n : Nat) (c : List Int) (last : Int), c.length ≤ n → n + 2 * d = xs.length →
    Ev (fun k => spec_l10Read.l0 k kind xs c last (n : Int)) (strOfNums (c ++ readP kind last (xs.drop n))) ∧ Ev (fun k => impl_readLevels.l0 k kind xs c last (n : Int)) (strOfNums (c ++ readP kind last (xs.drop n))) := by
  have hp : perN kind = ((2 : Nat) : Int) := by unfold perN; rw [if_pos hk]; rfl
  have hq : pairB kind = true := decide_eq_true hk
  intro d
  induction d with
  | zero =>
    intro n c last hc h
    have h1 : ¬ ((n : Int) < (xs.length : Int)) := by omega
    have h2 : xs.drop n = [] := List.drop_eq_nil_of_le (by omega)
    rw [h2]
    simp only [readP, List.append_nil]
    refine ⟨Ev.succ ?_, Ev.succ ?_⟩
    · simp only [spec_l10Read.l0, h1, if_false]; exact Ev.now _
    · simp only [impl_readLevels.l0, h1, if_false]; exact Ev.now _
  | succ d ih =>
    intro n c last hc h
    have h1 : (n : Int) < (xs.length : Int) := by omega
    have h2 : (0 : Int) ≤ (n : Int) := by omega
    have h3 : ((n + 1 : Nat) : Int) < (xs.length : Int) := by omega
    have h4 : (0 : Int) ≤ ((n + 1 : Nat) : Int) := by omega
    have h4' : ¬ ((n + 1 : Nat) : Int) = (xs.length : Int) := by omega
    have hw := w64_succ (show n < 9223372036854775807 by omega)
    have hw4 := w64_succ (show n + 1 < 9223372036854775807 by omega)
    rw [drop_two (show n + 1 < xs.length by omega)]
    simp only [readP]
    have tl : ∀ b : Bool, b = (if kind = 3 then rd xs (n : Int) == last else decide (rd xs (n : Int) < rd xs ((n + 1 : Nat) : Int))) →
        Ev (fun k => spec_l10Read.l0 k kind xs (c ++ [bitN b]) (rd xs ((n + 1 : Nat) : Int)) ((n + 1 + 1 : Nat) : Int)) (strOfNums (c ++ bitN (if kind = 3 then rd xs (n : Int) == last else decide (rd xs (n : Int) < rd xs ((n + 1 : Nat) : Int))) :: readP kind (rd xs ((n + 1 : Nat) : Int)) (xs.drop (n + 2)))) ∧
        Ev (fun k => impl_readLevels.l0 k kind xs (c ++ [bitN b]) (rd xs ((n + 2 - 1 : Nat) : Int)) ((n + 2 : Nat) : Int)) (strOfNums (c ++ bitN (if kind = 3 then rd xs (n : Int) == last else decide (rd xs (n : Int) < rd xs ((n + 1 : Nat) : Int))) :: readP kind (rd xs ((n + 1 : Nat) : Int)) (xs.drop (n + 2)))) := by
      intro b hb
      have h9 := ih (n + 2) (c ++ [bitN b]) (rd xs ((n + 1 : Nat) : Int)) (by simp; omega) (by omega)
      rw [List.append_assoc] at h9
      rw [← hb]
      exact h9
    rcases hk with rfl | rfl
    · obtain ⟨k1, k2⟩ := tl (decide (rd xs (n : Int) < rd xs ((n + 1 : Nat) : Int))) (by rw [if_neg (by decide)])
      refine ⟨Ev.succ ?_, Ev.succ ?_⟩
      · simp only [spec_l10Read.l0]
        refine Ev.cond (fun _ => ?_) (fun h' => absurd h1 h')
        refine Ev.cond (fun _ => ?_) (fun h' => absurd h2 h')
        refine Ev.cond (fun h' => absurd h' (by decide)) (fun _ => ?_)
        refine Ev.cond (fun h' => absurd h' (by decide)) (fun _ => Ev.succ ?_)
        simp only [spec_l10Read.j1]
        refine Ev.cond (fun h' => absurd h' (by decide)) (fun _ => ?_)
        refine Ev.cond (fun h' => absurd h' (by decide)) (fun _ => Ev.succ ?_)
        simp only [spec_l10Read.j2]
        refine Ev.bind (Ev.const (l10Double_eq 2)) ?_
        rw [hq, hw, hw4]
        refine Ev.cond (fun _ => ?_) (fun h' => absurd (by decide) h')
        refine Ev.cond (fun h' => absurd h' h4') (fun _ => ?_)
        refine Ev.cond (fun _ => ?_) (fun h' => absurd h4 h')
        refine Ev.cond (fun _ => ?_) (fun h' => absurd h3 h')
        refine Ev.cond (fun h' => absurd h' (by decide)) (fun _ => ?_)
        by_cases hlt : rd xs (n : Int) < rd xs ((n + 1 : Nat) : Int)
        · rw [decide_eq_true hlt] at k1 ⊢
          refine Ev.cond (fun _ => ?_) (fun h' => absurd hlt h')
          exact Ev.cond (fun _ => k1) (fun h' => absurd (by omega) h')
        · rw [decide_eq_false hlt] at k1 ⊢
          refine Ev.cond (fun h' => absurd h' hlt) (fun _ => ?_)
          exact Ev.cond (fun _ => k1) (fun h' => absurd (by omega) h')
      · simp only [impl_readLevels.l0]
        refine Ev.cond (fun _ => ?_) (fun h' => absurd h1 h')
        refine Ev.cond (fun _ => ?_) (fun h' => absurd h2 h')
        refine Ev.cond (fun h' => absurd h' (by decide)) (fun _ => ?_)
        refine Ev.cond (fun h' => absurd h' (by decide)) (fun _ => Ev.succ ?_)
        simp only [impl_readLevels.j1]
        refine Ev.cond (fun h' => absurd h' (by decide)) (fun _ => ?_)
        refine Ev.cond (fun _ => ?_) (fun h' => absurd (by decide) h')
        rw [hw]
        refine Ev.cond (fun _ => ?_) (fun h' => absurd h4 h')
        refine Ev.cond (fun _ => ?_) (fun h' => absurd h3 h')
        exact rl_tail hp (by omega) (by omega) (by omega) hn hc k2
    · obtain ⟨k1, k2⟩ := tl (rd xs (n : Int) == last) (by rw [if_pos rfl])
      refine ⟨Ev.succ ?_, Ev.succ ?_⟩
      · simp only [spec_l10Read.l0]
        refine Ev.cond (fun _ => ?_) (fun h' => absurd h1 h')
        refine Ev.cond (fun _ => ?_) (fun h' => absurd h2 h')
        refine Ev.cond (fun h' => absurd h' (by decide)) (fun _ => ?_)
        refine Ev.cond (fun h' => absurd h' (by decide)) (fun _ => Ev.succ ?_)
        simp only [spec_l10Read.j1]
        refine Ev.cond (fun h' => absurd h' (by decide)) (fun _ => ?_)
        refine Ev.cond (fun h' => absurd h' (by decide)) (fun _ => Ev.succ ?_)
        simp only [spec_l10Read.j2]
        refine Ev.bind (Ev.const (l10Double_eq 3)) ?_
        rw [hq, hw, hw4]
        refine Ev.cond (fun _ => ?_) (fun h' => absurd (by decide) h')
        refine Ev.cond (fun h' => absurd h' h4') (fun _ => ?_)
        refine Ev.cond (fun _ => ?_) (fun h' => absurd h4 h')
        refine Ev.cond (fun _ => ?_) (fun h' => absurd h3 h')
        refine Ev.cond (fun _ => ?_) (fun h' => absurd (by decide) h')
        by_cases heq : rd xs (n : Int) = last
        · have hb : (rd xs (n : Int) == last) = true := beq_iff_eq.2 heq
          rw [hb] at k1 ⊢
          refine Ev.cond (fun _ => ?_) (fun h' => absurd heq h')
          exact Ev.cond (fun _ => k1) (fun h' => absurd (by omega) h')
        · have hb : (rd xs (n : Int) == last) = false := beq_eq_false_iff_ne.2 heq
          rw [hb] at k1 ⊢
          refine Ev.cond (fun h' => absurd h' heq) (fun _ => ?_)
          exact Ev.cond (fun _ => k1) (fun h' => absurd (by omega) h')
      · simp only [impl_readLevels.l0]
        refine Ev.cond (fun _ => ?_) (fun h' => absurd h1 h')
        refine Ev.cond (fun _ => ?_) (fun h' => absurd h2 h')
        refine Ev.cond (fun h' => absurd h' (by decide)) (fun _ => ?_)
        refine Ev.cond (fun h' => absurd h' (by decide)) (fun _ => Ev.succ ?_)
        simp only [impl_readLevels.j1]
        refine Ev.cond (fun h' => absurd h' (by decide)) (fun _ => ?_)
        refine Ev.cond (fun h' => absurd h' (by decide)) (fun _ => ?_)
        refine Ev.cond (fun _ => ?_) (fun h' => absurd (by decide) h')
        exact rl_tail hp (by omega) (by omega) (by omega) hn hc k2
theorem readLevels_ev (kind : Int) (hk : kindB kind = true) (xs : List Int) (hn : xs.length ≤ 1099511627776) (hp : pairB kind = true → xs.length % 2 = 0) :
    Ev (fun k => spec_l10Read.f k kind xs) (strOfNums (readN kind xs)) ∧ Ev (fun k => impl_readLevels.f k kind xs) (strOfNums (readN kind xs)) := by
  unfold spec_l10Read.f impl_readLevels.f readN
  have hk' := kinds_of hk
  have fin : Ev (fun k => spec_l10Read.l0 k kind xs [] (beforeN kind) 0) (strOfNums (if kind = 2 ∨ kind = 3 then readP kind (beforeN kind) xs else readS kind (beforeN kind) xs)) ∧ Ev (fun k => impl_readLevels.l0 k kind xs [] (beforeN kind) 0) (strOfNums (if kind = 2 ∨ kind = 3 then readP kind (beforeN kind) xs else readS kind (beforeN kind) xs)) := by
    by_cases h : kind = 2 ∨ kind = 3
    · have h' := hp (decide_eq_true h)
      rw [if_pos h]
      exact readLevels_P kind h xs hn (xs.length / 2) 0 [] (beforeN kind) (by simp) (by omega)
    · rw [if_neg h]
      exact readLevels_S kind (by omega) xs hn xs.length 0 [] (beforeN kind) (by simp) (by omega)
  exact ⟨Ev.bind (Ev.const (l10Before_eq kind)) fin.1, Ev.bind (Ev.const (newWire_eq kind)) fin.2⟩

/-! RdLimpl -/
def RdL_ans (kind : Int) (xs : List Int) : ByteArray × Bool := if canB kind xs = true then (strOfNums (readN kind xs), true) else (⟨#[]⟩, false)
theorem RdL_impl (kind : Int) (xs : List Int) (hn : xs.length ≤ 1099511627776) : Ev (fun k => impl_ReadLevels.f k kind xs) (RdL_ans kind xs) := by
  unfold impl_ReadLevels.f RdL_ans
  by_cases h : canB kind xs = true
  · obtain ⟨h1, h2, h3⟩ := canB_pair h
    obtain ⟨e1, e2⟩ := readLevels_ev kind h1 xs hn h3
    refine Ev.bind (canRead_ev kind xs hn) ?_
    simp only [h, if_true]; exact Ev.bind e2 (Ev.now _)
  · refine Ev.bind (canRead_ev kind xs hn) ?_
    simp only [h, if_false]; exact Ev.now _

/-! levelsImpl -/
theorem send_eq {kind s : Int} (h : sOK kind s) (b : Bool) : impl_wire_send.f kind (wLevel kind s) (wNext kind s) (wFrom kind s) b = some (lvOut kind s b, kind, wLevel kind (lvNext kind s b), wNext kind (lvNext kind s b), wFrom kind (lvNext kind s b)) := by
  rcases h with ⟨rfl, rfl⟩ | ⟨rfl, rfl | rfl⟩ | ⟨rfl, rfl⟩ | ⟨rfl, rfl | rfl⟩ | ⟨rfl, rfl | rfl⟩ | ⟨rfl, rfl | rfl | rfl | rfl⟩ <;> cases b <;> decide +kernel
theorem levelsOf_l0 (kind : Int) (t : ByteArray) (ht : t.size ≤ 1048576) : ∀ (d n : Nat) (c : List Int) (s : Int), sOK kind s → c.length ≤ 2 * n → n + d = t.size →
    Ev (fun k => impl_levelsOf.l0 k t c (t.size : Int) (n : Int) kind (wLevel kind s) (wNext kind s) (wFrom kind s)) (c ++ lvGo kind s (t.data.toList.drop n)) := by
  intro d
  induction d with
  | zero =>
    intro n c s hs hc h
    have c1 : ¬ ((n : Int) < (t.size : Int)) := by omega
    have c2 : t.data.toList.drop n = [] := List.drop_eq_nil_of_le (by rw [size_data]; omega)
    apply Ev.succ
    simp only [impl_levelsOf.l0]
    rw [c2, lvGo, List.append_nil]
    exact Ev.cond (fun h' => absurd h' c1) (fun _ => Ev.now _)
  | succ d ih =>
    intro n c s hs hc h
    have hl : n < t.size := by omega
    have c1 : (n : Int) < (t.size : Int) := by omega
    have c2 : (0 : Int) ≤ (n : Int) := by omega
    have hbt : (bt t (n : Int) == 49) = (t[n] == 49) := by
      rw [bt_nat t n hl, Bool.eq_iff_iff, beq_iff_eq, beq_iff_eq]
      constructor
      · intro h'; exact UInt8.toNat_inj.1 (by show (t[n]).toNat = 49; omega)
      · intro h'; rw [h']; rfl
    have hlen := lvOut_len hs (t[n] == 49)
    have hlen2 : (lvOut kind s (t[n] == 49)).length ≤ 2 := by rw [hlen]; split <;> omega
    have h3 := ih (n + 1) (c ++ lvOut kind s (t[n] == 49)) (lvNext kind s (t[n] == 49)) (sOK_next hs _) (by rw [List.length_append]; omega) (by omega)
    rw [List.append_assoc] at h3
    rw [drop_data hl, lvGo]
    apply Ev.succ
    simp only [impl_levelsOf.l0]
    refine Ev.cond (fun _ => ?_) (fun h' => absurd c1 h')
    refine Ev.cond (fun _ => ?_) (fun h' => absurd c2 h')
    refine Ev.cond (fun _ => ?_) (fun h' => absurd c1 h')
    rw [hbt]
    refine Ev.bind (Ev.const (send_eq hs _)) ?_
    refine Ev.cond (fun _ => ?_) (fun h' => absurd (by show c.length + (lvOut kind s (t[n] == 49)).length < 17592186044416; omega) h')
    rw [w64_succ (show n < 9223372036854775807 by omega)]
    exact h3
theorem levelsOf_ev (kind : Int) (hk : kindB kind = true) (t : ByteArray) (ht : t.size ≤ 1048576) : Ev (fun k => impl_levelsOf.f k kind t) (levelsN kind t.data.toList) := by
  unfold impl_levelsOf.f
  have hk' := kinds_of hk
  have e : beforeN kind = wLevel kind (lvStart kind) ∧ (1 : Int) = wNext kind (lvStart kind) ∧ (-1 : Int) = wFrom kind (lvStart kind) := by
    rcases hk' with rfl | rfl | rfl | rfl | rfl | rfl <;> decide
  refine Ev.bind (Ev.const (newWire_eq kind)) ?_
  have h := levelsOf_l0 kind t ht t.size 0 [] (lvStart kind) (sOK_start hk') (by simp) (by omega)
  rw [← e.1, ← e.2.1, ← e.2.2] at h
  exact h

/-! l10Levels -/
def circL : List Int := [0, 1, 0, -1]
/-- What the reference holds of the state. -/
def sHold (kind s last mark at_ : Int) : Prop := ((kind = 1 ∨ kind = 3) → last = s) ∧ (kind = 4 → mark = s) ∧ (kind = 5 → at_ = s)
theorem l10Levels_step (kind : Int) (t : ByteArray) (ht : t.size ≤ 1048576) (n : Nat) (hl : n < t.size) (c : List Int) (s last mark at_ : Int) (hs : sOK kind s) (hh : sHold kind s last mark at_) (hc : c.length ≤ 2 * n) (r : List Int)
    (h : ∀ last2 mark2 at2, sHold kind (lvNext kind s (t[n] == 49)) last2 mark2 at2 → Ev (fun k => spec_l10Levels.l0 k kind t (c ++ lvOut kind s (t[n] == 49)) last2 mark2 at2 circL ((n + 1 : Nat) : Int)) r) :
    Ev (fun k => spec_l10Levels.l0 k kind t c last mark at_ circL (n : Int)) r := by
  have c1 : (n : Int) < (t.size : Int) := by omega
  have c2 : (0 : Int) ≤ (n : Int) := by omega
  have c3 : c.length < 17592186044416 := by omega
  have hbt := bt_nat t n hl
  have hw := w64_succ (show n < 9223372036854775807 by omega)
  have hb : bt t (n : Int) = 49 ↔ (t[n] == 49) = true := by
    rw [hbt, beq_iff_eq]
    constructor
    · intro h'; exact UInt8.toNat_inj.1 (by show (t[n]).toNat = 49; omega)
    · intro h'; rw [h']; rfl
  generalize (t[n] == 49) = b at h hb
  apply Ev.succ
  simp only [spec_l10Levels.l0]
  refine Ev.cond (fun _ => ?_) (fun h' => absurd c1 h')
  refine Ev.cond (fun _ => ?_) (fun h' => absurd c2 h')
  rw [hw]
  rcases hs with ⟨rfl, rfl⟩ | ⟨rfl, hs⟩ | ⟨rfl, rfl⟩ | ⟨rfl, hs⟩ | ⟨rfl, hs⟩ | ⟨rfl, hs⟩
  · skip
    refine Ev.cond (fun _ => ?_) (fun h' => absurd (by decide) h')
    cases b
    · refine Ev.cond (fun h' => absurd (hb.1 h') (by decide)) (fun _ => ?_)
      exact Ev.cond (fun _ => h _ _ _ ⟨fun h' => absurd h' (by decide), fun h' => absurd h' (by decide), fun h' => absurd h' (by decide)⟩) (fun h' => absurd c3 h')
    · refine Ev.cond (fun _ => ?_) (fun h' => absurd (hb.2 rfl) h')
      exact Ev.cond (fun _ => h _ _ _ ⟨fun h' => absurd h' (by decide), fun h' => absurd h' (by decide), fun h' => absurd h' (by decide)⟩) (fun h' => absurd c3 h')
  · obtain rfl := hh.1 (by decide)
    have hwn : wrap64 (-last) = -last := w64 (by omega) (by omega)
    refine Ev.cond (fun h' => absurd h' (by decide)) (fun _ => ?_)
    refine Ev.cond (fun _ => ?_) (fun h' => absurd (by decide) h')
    cases b
    · refine Ev.cond (fun h' => absurd (hb.1 h') (by decide)) (fun _ => ?_)
      (try rw [hwn])
      exact Ev.cond (fun _ => h _ _ _ ⟨fun h' => rfl, fun h' => absurd h' (by decide), fun h' => absurd h' (by decide)⟩) (fun h' => absurd c3 h')
    · refine Ev.cond (fun _ => ?_) (fun h' => absurd (hb.2 rfl) h')
      (try rw [hwn])
      exact Ev.cond (fun _ => h _ _ _ ⟨fun h' => rfl, fun h' => absurd h' (by decide), fun h' => absurd h' (by decide)⟩) (fun h' => absurd c3 h')
  · skip
    refine Ev.cond (fun h' => absurd h' (by decide)) (fun _ => ?_)
    refine Ev.cond (fun h' => absurd h' (by decide)) (fun _ => ?_)
    refine Ev.cond (fun _ => ?_) (fun h' => absurd (by decide) h')
    cases b
    · refine Ev.cond (fun h' => absurd (hb.1 h') (by decide)) (fun _ => ?_)
      refine Ev.cond (fun _ => ?_) (fun h' => absurd c3 h')
      refine Ev.bind (Ev.now _) ?_
      refine Ev.cond (fun _ => ?_) (fun h' => absurd (by rw [List.length_append]; simp only [List.length_cons, List.length_nil]; omega) h')
      rw [List.append_assoc]
      exact h _ _ _ ⟨fun h' => absurd h' (by decide), fun h' => absurd h' (by decide), fun h' => absurd h' (by decide)⟩
    · refine Ev.cond (fun _ => ?_) (fun h' => absurd (hb.2 rfl) h')
      refine Ev.cond (fun _ => ?_) (fun h' => absurd c3 h')
      refine Ev.bind (Ev.now _) ?_
      refine Ev.cond (fun _ => ?_) (fun h' => absurd (by rw [List.length_append]; simp only [List.length_cons, List.length_nil]; omega) h')
      rw [List.append_assoc]
      exact h _ _ _ ⟨fun h' => absurd h' (by decide), fun h' => absurd h' (by decide), fun h' => absurd h' (by decide)⟩
  · obtain rfl := hh.1 (by decide)
    have hwn : wrap64 (-last) = -last := w64 (by omega) (by omega)
    have hwn2 : wrap64 (- -last) = last := by rw [w64 (by omega) (by omega)]; omega
    refine Ev.cond (fun h' => absurd h' (by decide)) (fun _ => ?_)
    refine Ev.cond (fun h' => absurd h' (by decide)) (fun _ => ?_)
    refine Ev.cond (fun h' => absurd h' (by decide)) (fun _ => ?_)
    refine Ev.cond (fun _ => ?_) (fun h' => absurd (by decide) h')
    cases b
    · refine Ev.cond (fun h' => absurd (hb.1 h') (by decide)) (fun _ => ?_)
      (try rw [hwn]); (try rw [hwn2])
      refine Ev.cond (fun _ => ?_) (fun h' => absurd c3 h')
      refine Ev.bind (Ev.now _) ?_
      refine Ev.cond (fun _ => ?_) (fun h' => absurd (by rw [List.length_append]; simp only [List.length_cons, List.length_nil]; omega) h')
      rw [List.append_assoc]
      exact h _ _ _ ⟨fun h' => rfl, fun h' => absurd h' (by decide), fun h' => absurd h' (by decide)⟩
    · refine Ev.cond (fun _ => ?_) (fun h' => absurd (hb.2 rfl) h')
      (try rw [hwn]); (try rw [hwn2])
      refine Ev.cond (fun _ => ?_) (fun h' => absurd c3 h')
      refine Ev.bind (Ev.now _) ?_
      refine Ev.cond (fun _ => ?_) (fun h' => absurd (by rw [List.length_append]; simp only [List.length_cons, List.length_nil]; omega) h')
      rw [List.append_assoc]
      exact h _ _ _ ⟨fun h' => rfl, fun h' => absurd h' (by decide), fun h' => absurd h' (by decide)⟩
  · obtain rfl := hh.2.1 rfl
    have hwn : wrap64 (-mark) = -mark := w64 (by omega) (by omega)
    refine Ev.cond (fun h' => absurd h' (by decide)) (fun _ => ?_)
    refine Ev.cond (fun h' => absurd h' (by decide)) (fun _ => ?_)
    refine Ev.cond (fun h' => absurd h' (by decide)) (fun _ => ?_)
    refine Ev.cond (fun h' => absurd h' (by decide)) (fun _ => ?_)
    refine Ev.cond (fun _ => ?_) (fun h' => absurd (by decide) h')
    cases b
    · refine Ev.cond (fun h' => absurd (hb.1 h') (by decide)) (fun _ => ?_)
      (try rw [hwn])
      exact Ev.cond (fun _ => h _ _ _ ⟨fun h' => absurd h' (by decide), fun h' => rfl, fun h' => absurd h' (by decide)⟩) (fun h' => absurd c3 h')
    · refine Ev.cond (fun _ => ?_) (fun h' => absurd (hb.2 rfl) h')
      (try rw [hwn])
      exact Ev.cond (fun _ => h _ _ _ ⟨fun h' => absurd h' (by decide), fun h' => rfl, fun h' => absurd h' (by decide)⟩) (fun h' => absurd c3 h')
  · obtain rfl := hh.2.2 rfl
    refine Ev.cond (fun h' => absurd h' (by decide)) (fun _ => ?_)
    refine Ev.cond (fun h' => absurd h' (by decide)) (fun _ => ?_)
    refine Ev.cond (fun h' => absurd h' (by decide)) (fun _ => ?_)
    refine Ev.cond (fun h' => absurd h' (by decide)) (fun _ => ?_)
    refine Ev.cond (fun h' => absurd h' (by decide)) (fun _ => ?_)
    refine Ev.cond (fun _ => ?_) (fun h' => absurd (by decide) h')
    cases b
    · refine Ev.cond (fun h' => absurd (hb.1 h') (by decide)) (fun _ => ?_)
      rcases hs with rfl | rfl | rfl | rfl
      · refine Ev.cond (fun _ => ?_) (fun h' => absurd (by decide) h')
        refine Ev.cond (fun _ => ?_) (fun h' => absurd (by decide) h')
        exact Ev.cond (fun _ => h _ _ 0 ⟨fun h' => absurd h' (by decide), fun h' => absurd h' (by decide), fun _ => by decide⟩) (fun h' => absurd c3 h')
      · refine Ev.cond (fun _ => ?_) (fun h' => absurd (by decide) h')
        refine Ev.cond (fun _ => ?_) (fun h' => absurd (by decide) h')
        exact Ev.cond (fun _ => h _ _ 1 ⟨fun h' => absurd h' (by decide), fun h' => absurd h' (by decide), fun _ => by decide⟩) (fun h' => absurd c3 h')
      · refine Ev.cond (fun _ => ?_) (fun h' => absurd (by decide) h')
        refine Ev.cond (fun _ => ?_) (fun h' => absurd (by decide) h')
        exact Ev.cond (fun _ => h _ _ 2 ⟨fun h' => absurd h' (by decide), fun h' => absurd h' (by decide), fun _ => by decide⟩) (fun h' => absurd c3 h')
      · refine Ev.cond (fun _ => ?_) (fun h' => absurd (by decide) h')
        refine Ev.cond (fun _ => ?_) (fun h' => absurd (by decide) h')
        exact Ev.cond (fun _ => h _ _ 3 ⟨fun h' => absurd h' (by decide), fun h' => absurd h' (by decide), fun _ => by decide⟩) (fun h' => absurd c3 h')
    · refine Ev.cond (fun _ => ?_) (fun h' => absurd (hb.2 rfl) h')
      rcases hs with rfl | rfl | rfl | rfl
      · have ht : Int.tmod (wrap64 (0 + 1)) 4 = 1 := by decide +kernel
        rw [ht]
        refine Ev.cond (fun _ => ?_) (fun h' => absurd (by decide) h')
        refine Ev.cond (fun _ => ?_) (fun h' => absurd (by decide) h')
        exact Ev.cond (fun _ => h _ _ 1 ⟨fun h' => absurd h' (by decide), fun h' => absurd h' (by decide), fun _ => by decide⟩) (fun h' => absurd c3 h')
      · have ht : Int.tmod (wrap64 (1 + 1)) 4 = 2 := by decide +kernel
        rw [ht]
        refine Ev.cond (fun _ => ?_) (fun h' => absurd (by decide) h')
        refine Ev.cond (fun _ => ?_) (fun h' => absurd (by decide) h')
        exact Ev.cond (fun _ => h _ _ 2 ⟨fun h' => absurd h' (by decide), fun h' => absurd h' (by decide), fun _ => by decide⟩) (fun h' => absurd c3 h')
      · have ht : Int.tmod (wrap64 (2 + 1)) 4 = 3 := by decide +kernel
        rw [ht]
        refine Ev.cond (fun _ => ?_) (fun h' => absurd (by decide) h')
        refine Ev.cond (fun _ => ?_) (fun h' => absurd (by decide) h')
        exact Ev.cond (fun _ => h _ _ 3 ⟨fun h' => absurd h' (by decide), fun h' => absurd h' (by decide), fun _ => by decide⟩) (fun h' => absurd c3 h')
      · have ht : Int.tmod (wrap64 (3 + 1)) 4 = 0 := by decide +kernel
        rw [ht]
        refine Ev.cond (fun _ => ?_) (fun h' => absurd (by decide) h')
        refine Ev.cond (fun _ => ?_) (fun h' => absurd (by decide) h')
        exact Ev.cond (fun _ => h _ _ 0 ⟨fun h' => absurd h' (by decide), fun h' => absurd h' (by decide), fun _ => by decide⟩) (fun h' => absurd c3 h')
theorem l10Levels_l0 (kind : Int) (t : ByteArray) (ht : t.size ≤ 1048576) : ∀ (d n : Nat) (c : List Int) (s last mark at_ : Int), sOK kind s → sHold kind s last mark at_ → c.length ≤ 2 * n → n + d = t.size →
    Ev (fun k => spec_l10Levels.l0 k kind t c last mark at_ circL (n : Int)) (c ++ lvGo kind s (t.data.toList.drop n)) := by
  intro d
  induction d with
  | zero =>
    intro n c s last mark at_ hs hh hc h
    have c1 : ¬ ((n : Int) < (t.size : Int)) := by omega
    have c2 : t.data.toList.drop n = [] := List.drop_eq_nil_of_le (by rw [size_data]; omega)
    apply Ev.succ
    simp only [spec_l10Levels.l0]
    rw [c2, lvGo, List.append_nil]
    exact Ev.cond (fun h' => absurd h' c1) (fun _ => Ev.now _)
  | succ d ih =>
    intro n c s last mark at_ hs hh hc h
    have hl : n < t.size := by omega
    have hlen := lvOut_len hs (t[n] == 49)
    have hlen2 : (lvOut kind s (t[n] == 49)).length ≤ 2 := by rw [hlen]; split <;> omega
    rw [drop_data hl, lvGo, ← List.append_assoc]
    refine l10Levels_step kind t ht n hl c s last mark at_ hs hh hc _ (fun last2 mark2 at2 h2 => ?_)
    exact ih (n + 1) (c ++ lvOut kind s (t[n] == 49)) (lvNext kind s (t[n] == 49)) last2 mark2 at2 (sOK_next hs _) h2 (by rw [List.length_append]; omega) (by omega)
theorem l10Levels_ev (kind : Int) (hk : kindB kind = true) (t : ByteArray) (ht : t.size ≤ 1048576) : Ev (fun k => spec_l10Levels.f k kind t) (levelsN kind t.data.toList) := by
  unfold spec_l10Levels.f
  have hk' := kinds_of hk
  refine Ev.bind (Ev.const (l10Before_eq kind)) ?_
  have h := l10Levels_l0 kind t ht t.size 0 [] (lvStart kind) (beforeN kind) 1 0 (sOK_start hk') (by rcases hk' with rfl | rfl | rfl | rfl | rfl | rfl <;> exact ⟨by decide, by decide, by decide⟩) (by simp) (by omega)
  exact h

/-! slicesEqual -/
theorem slicesEqual_l0 (xs ys : List Int) (hl : xs.length = ys.length) (hn : xs.length ≤ 1099511627776) : ∀ d n, n + d = xs.length → Ev (fun k => slices_Equal_int64_int64.l0 k xs ys (xs.length : Int) (n : Int)) (decide (xs.drop n = ys.drop n)) := by
  intro d
  induction d with
  | zero =>
    intro n h
    apply Ev.succ
    have h1 : ¬ ((n : Int) < (xs.length : Int)) := by omega
    have h2 : xs.drop n = [] := List.drop_eq_nil_of_le (by omega)
    have h3 : ys.drop n = [] := List.drop_eq_nil_of_le (by omega)
    simp only [slices_Equal_int64_int64.l0, h1, if_false, h2, h3, decide_true]
    exact Ev.now true
  | succ d ih =>
    intro n h
    apply Ev.succ
    have h1 : (n : Int) < (xs.length : Int) := by omega
    have h1' : (n : Int) < (ys.length : Int) := by omega
    have h2 : (0 : Int) ≤ (n : Int) := by omega
    have h3 := ih (n + 1) (by omega)
    rw [drop_rd (show n < xs.length by omega), drop_rd (show n < ys.length by omega)]
    simp only [slices_Equal_int64_int64.l0, h1, h1', h2, if_true, w64_succ (show n < 9223372036854775807 by omega), List.cons.injEq]
    by_cases hc : rd xs (n : Int) = rd ys (n : Int)
    · simp only [hc, if_true, true_and]; exact h3
    · simp only [hc, if_false, false_and, decide_false]; exact Ev.now false
theorem slicesEqual_ev (xs ys : List Int) (hn : xs.length ≤ 1099511627776) : Ev (fun k => slices_Equal_int64_int64.f k xs ys) (decide (xs = ys)) := by
  unfold slices_Equal_int64_int64.f
  by_cases hl : xs.length = ys.length
  · have h1 : (xs.length : Int) = (ys.length : Int) := by omega
    simp only [h1, if_true]
    have h := slicesEqual_l0 xs ys hl hn xs.length 0 (by omega)
    rw [h1] at h
    exact h
  · have h1 : ¬ (xs.length : Int) = (ys.length : Int) := by omega
    have h2 : ¬ xs = ys := fun h => hl (by rw [h])
    simp only [h1, if_false, h2, decide_false]
    exact Ev.now false

/-! l00Same -/
theorem l00Same_l0 (xs ys : List Int) (hl : xs.length = ys.length) (hn : xs.length ≤ 1099511627776) : ∀ d n, n + d = xs.length → Ev (fun k => spec_l00Same.l0 k xs ys (n : Int)) (decide (xs.drop n = ys.drop n)) := by
  intro d
  induction d with
  | zero =>
    intro n h
    apply Ev.succ
    have h1 : ¬ ((n : Int) < (xs.length : Int)) := by omega
    have h2 : xs.drop n = [] := List.drop_eq_nil_of_le (by omega)
    have h3 : ys.drop n = [] := List.drop_eq_nil_of_le (by omega)
    simp only [spec_l00Same.l0, h1, if_false, h2, h3, decide_true]
    exact Ev.now true
  | succ d ih =>
    intro n h
    apply Ev.succ
    have h1 : (n : Int) < (xs.length : Int) := by omega
    have h1' : (n : Int) < (ys.length : Int) := by omega
    have h2 : (0 : Int) ≤ (n : Int) := by omega
    have h3 := ih (n + 1) (by omega)
    rw [drop_rd (show n < xs.length by omega), drop_rd (show n < ys.length by omega)]
    simp only [spec_l00Same.l0, h1, h1', h2, if_true, w64_succ (show n < 9223372036854775807 by omega), List.cons.injEq]
    by_cases hc : rd xs (n : Int) = rd ys (n : Int)
    · simp only [hc, if_true, true_and]; exact h3
    · simp only [hc, if_false, false_and, decide_false]; exact Ev.now false
theorem l00Same_ev (xs ys : List Int) (hn : xs.length ≤ 1099511627776) : Ev (fun k => spec_l00Same.f k xs ys) (decide (xs = ys)) := by
  unfold spec_l00Same.f
  by_cases hl : xs.length = ys.length
  · have h1 : (xs.length : Int) = (ys.length : Int) := by omega
    simp only [h1, if_true]
    have h := l00Same_l0 xs ys hl hn xs.length 0 (by omega)
    exact h
  · have h1 : ¬ (xs.length : Int) = (ys.length : Int) := by omega
    have h2 : ¬ xs = ys := fun h => hl (by rw [h])
    simp only [h1, if_false, h2, decide_false]
    exact Ev.now false

/-! toInt64S -/
theorem toInt64S_l0 (xs : List Int) (hn : xs.length ≤ 1099511627776) : ∀ d n, n + d = xs.length → Ev (fun k => laws_toInt64S.l0 k xs (xs.take n ++ List.replicate d 0) (n : Int)) xs := by
  intro d
  induction d with
  | zero =>
    intro n h
    apply Ev.succ
    have h1 : ¬ ((n : Int) < (xs.length : Int)) := by omega
    have h2 : xs.take n = xs := List.take_of_length_le (by omega)
    simp only [laws_toInt64S.l0, h1, if_false, h2, List.replicate_zero, List.append_nil]
    exact Ev.now _
  | succ d ih =>
    intro n h
    apply Ev.succ
    have h1 : (n : Int) < (xs.length : Int) := by omega
    have h2 : (0 : Int) ≤ (n : Int) := by omega
    have h3 := ih (n + 1) (by omega)
    have h4 : (n : Int) < ((xs.take n ++ List.replicate (d + 1) (0 : Int)).length : Int) := by
      simp only [List.length_append, List.length_take, List.length_replicate]; omega
    have h5 : (xs.take n ++ List.replicate (d + 1) (0 : Int)).set n (rd xs (n : Int)) = xs.take (n + 1) ++ List.replicate d 0 := by
      rw [List.replicate_succ, set_mid _ _ _ _ _ (by rw [List.length_take]; omega), take_rd (show n < xs.length by omega)]
      simp
    simp only [laws_toInt64S.l0, h1, h2, h4, if_true, Int.toNat_natCast, h5, w64_succ (show n < 9223372036854775807 by omega)]
    exact h3
theorem toInt64S_ev (xs : List Int) (hn : xs.length ≤ 1099511627776) : Ev (fun k => laws_toInt64S.f k xs) xs := by
  unfold laws_toInt64S.f
  have h1 : (0 : Int) ≤ (xs.length : Int) := by omega
  have h2 : xs.length ≤ 35184372088832 := by omega
  simp only [h1, if_true, Int.toNat_natCast, h2]
  have h := toInt64S_l0 xs hn xs.length 0 (by omega)
  exact h

/-! eqInt64S -/
theorem eqInt64S_l0 (xs ys : List Int) (hl : xs.length = ys.length) (hn : xs.length ≤ 1099511627776) : ∀ d n, n + d = xs.length → Ev (fun k => laws_eqInt64S.l0 k xs ys (n : Int)) (decide (xs.drop n = ys.drop n)) := by
  intro d
  induction d with
  | zero =>
    intro n h
    apply Ev.succ
    have h1 : ¬ ((n : Int) < (xs.length : Int)) := by omega
    have h2 : xs.drop n = [] := List.drop_eq_nil_of_le (by omega)
    have h3 : ys.drop n = [] := List.drop_eq_nil_of_le (by omega)
    simp only [laws_eqInt64S.l0, h1, if_false, h2, h3, decide_true]
    exact Ev.now true
  | succ d ih =>
    intro n h
    apply Ev.succ
    have h1 : (n : Int) < (xs.length : Int) := by omega
    have h1' : (n : Int) < (ys.length : Int) := by omega
    have h2 : (0 : Int) ≤ (n : Int) := by omega
    have h3 := ih (n + 1) (by omega)
    rw [drop_rd (show n < xs.length by omega), drop_rd (show n < ys.length by omega)]
    simp only [laws_eqInt64S.l0, h1, h1', h2, if_true, w64_succ (show n < 9223372036854775807 by omega), List.cons.injEq]
    by_cases hc : rd xs (n : Int) = rd ys (n : Int)
    · simp only [hc, if_true, true_and]; exact h3
    · simp only [hc, if_false, false_and, decide_false]; exact Ev.now false
theorem eqInt64S_ev (xs ys : List Int) (hn : xs.length ≤ 1099511627776) : Ev (fun k => laws_eqInt64S.f k xs ys) (decide (xs = ys)) := by
  unfold laws_eqInt64S.f
  by_cases hl : xs.length = ys.length
  · have h1 : (xs.length : Int) = (ys.length : Int) := by omega
    simp only [h1, if_true]
    have h := eqInt64S_l0 xs ys hl hn xs.length 0 (by omega)
    exact h
  · have h1 : ¬ (xs.length : Int) = (ys.length : Int) := by omega
    have h2 : ¬ xs = ys := fun h => hl (by rw [h])
    simp only [h1, if_false, h2, decide_false]
    exact Ev.now false
theorem eqInt64S_same (xs : List Int) (hn : xs.length ≤ 1099511627776) : Ev (fun k => laws_eqInt64S.f k xs xs) true := by
  have h := eqInt64S_ev xs xs hn
  rw [decide_eq_true rfl] at h
  exact h

theorem readS_len (kind : Int) : ∀ (l : List Int) (last : Int), (readS kind last l).length = l.length := by
  intro l
  induction l with
  | nil => intro _; rfl
  | cons x l ih => intro last; simp [readS, ih]
theorem readP_len (kind : Int) : ∀ (d : Nat) (l : List Int) (last : Int), l.length ≤ d → (readP kind last l).length ≤ l.length := by
  intro d
  induction d with
  | zero => intro l last h; obtain rfl : l = [] := List.eq_nil_of_length_eq_zero (by omega); simp [readP]
  | succ d ih =>
    intro l last h
    match l, h with
    | [], _ => simp [readP]
    | [x], _ => simp [readP]
    | x :: y :: r, h =>
      simp only [readP, List.length_cons] at h ⊢
      have := ih r y (by omega)
      omega
theorem readN_size (kind : Int) (xs : List Int) : (strOfNums (readN kind xs)).size ≤ xs.length := by
  have e : (strOfNums (readN kind xs)).size = (readN kind xs).length := by
    show (strOfNums (readN kind xs)).data.size = _
    simp [strOfNums]
  rw [e]
  unfold readN
  split
  · exact readP_len kind xs.length xs _ (Nat.le_refl _)
  · rw [readS_len]; exact Nat.le_refl _
theorem BL_ev (kind : Int) (xs : List Int) (hn : xs.length ≤ 1048576) : ∃ r, Ev (fun k => spec_BitsOfLevels.f k kind xs) r ∧ Ev (fun k => impl_BitsOfLevels.f k kind xs) r := by
  unfold spec_BitsOfLevels.f impl_BitsOfLevels.f
  have hi := RdL_impl kind xs (by omega)
  have hw := l10Whole_ev kind xs (by omega)
  unfold RdL_ans at hi
  by_cases h : canB kind xs = true
  · obtain ⟨h1, h2, h3⟩ := canB_pair h
    obtain ⟨e1, e2⟩ := readLevels_ev kind h1 xs (by omega) h3
    have hsz := readN_size kind xs
    rw [if_pos h] at hi
    rw [h] at hw
    have g1 := levelsOf_ev kind h1 (strOfNums (readN kind xs)) (by omega)
    have g2 := l10Levels_ev kind h1 (strOfNums (readN kind xs)) (by omega)
    have hL2 : (levelsN kind (strOfNums (readN kind xs)).data.toList).length ≤ 2 * xs.length := by
      unfold levelsN
      rw [lvGo_len _ (sOK_start (kinds_of h1)), size_data]
      split <;> omega
    generalize hL : levelsN kind (strOfNums (readN kind xs)).data.toList = L at g1 g2 hL2
    have q1 := slicesEqual_ev L xs (by omega)
    have q2 := l00Same_ev L xs (by omega)
    refine ⟨if decide (L = xs) = true then (strOfNums (readN kind xs), true) else (⟨#[]⟩, false), ?_, ?_⟩
    · refine Ev.bind hw (Ev.cond (fun _ => ?_) (fun h' => absurd rfl h'))
      exact Ev.bind e1 (Ev.bind g2 (Ev.bind q2 (Ev.ite (fun _ => Ev.now _) (fun _ => Ev.now _))))
    · refine Ev.bind hi (Ev.cond (fun _ => ?_) (fun h' => absurd rfl h'))
      exact Ev.bind g1 (Ev.bind q1 (Ev.ite (fun _ => Ev.now _) (fun _ => Ev.now _)))
  · rw [if_neg h] at hi
    rw [eq_false_of_ne_true h] at hw
    refine ⟨(⟨#[]⟩, false), Ev.bind hw (Ev.cond (fun h' => absurd h' (by decide)) (fun _ => Ev.now _)), Ev.bind hi (Ev.cond (fun h' => absurd h' (by decide)) (fun _ => Ev.now _))⟩
theorem FnExactBitsOfLevels : laws_FnExactBitsOfLevels.Pure := by
  intro kind xs hk0 h0 h1 hx
  refine Ev.rounds ?_
  unfold laws_FnExactBitsOfLevels.f
  by_cases hl : (xs.length : Int) > 1048576
  · simp only [hl, if_true]; exact Ev.now _
  have hn : xs.length ≤ 1099511627776 := by omega
  obtain ⟨r, hs, hi⟩ := BL_ev kind xs (by omega)
  simp only [hl, if_false]
  refine Ev.bind (toInt64S_ev xs hn) (Ev.bind hs (Ev.bind (toInt64S_ev xs hn) (Ev.bind hi ?_)))
  simp only [if_true, bne_self_eq_false]
  refine Ev.succ ?_
  simp only [laws_FnExactBitsOfLevels.j0, Bool.false_eq_true, if_false]
  refine Ev.bind (toInt64S_ev xs hn) (Ev.bind (eqInt64S_same _ hn) ?_)
  simp only [if_true]
  exact Ev.now _

end Go.Proofs.Ytbgiddnffchnpaa.Pure
