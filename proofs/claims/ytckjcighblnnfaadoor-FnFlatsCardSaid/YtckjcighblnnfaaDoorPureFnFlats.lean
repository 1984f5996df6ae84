/- The levels of no drawn bits are equal for longer than told for their number, changes and equal neighbours are all neighbours, and some bits have the longest part. -/
import Derived.Test.YtckjcighblnnfaaDoorQFnFlatsx5
import Derived.Test.YtckjcighblnnfaaDoorBase
import Derived.Test.YtckjcighblnnfaaDoorLevels
import Derived.Test.YtckjcighblnnfaaDoorPoly
import Derived.Test.YtckjcighblnnfaaDoorLin
namespace Go.Proofs.YtckjcighblnnfaaDoor.Pure
open Go.RowKit Go.Proofs.YtckjcighblnnfaaDoor.QFnFlats Go.Proofs.YtckjcighblnnfaaDoor.Base Go.Proofs.YtckjcighblnnfaaDoorW.PrintWords Go.Proofs.YtckjcighblnnfaaDoorW.PrintLast Go.Proofs.YtckjcighblnnfaaDoorW.PrintMore
open Go.Proofs.YtckjcighblnnfaaDoor.Levels
open Go.Proofs.YtckjcighblnnfaaDoor.Poly
open Go.Proofs.YtckjcighblnnfaaDoor.Lin
set_option linter.unusedVariables false
set_option linter.unusedSimpArgs false

/-! within -/
theorem within_eq (a b c : Int) : impl_within.f a b c = some (decide (b ≤ a ∧ a ≤ c)) := by
  unfold impl_within.f
  by_cases h : b ≤ a
  · simp [h, ge_iff_le]
  · simp [h, ge_iff_le]

/-! l00In -/

/-! lineKinds -/
def kindB (kind : Int) : Bool := decide (0 ≤ kind ∧ kind ≤ 5)
def pairB (kind : Int) : Bool := decide (kind = 2 ∨ kind = 3)
def perN (kind : Int) : Int := if kind = 2 ∨ kind = 3 then 2 else 1
theorem kinds_of {kind : Int} (h : kindB kind = true) : kind = 0 ∨ kind = 1 ∨ kind = 2 ∨ kind = 3 ∨ kind = 4 ∨ kind = 5 := by
  have h := of_decide_eq_true h
  omega
theorem isLine_eq (kind : Int) : impl_isLine.f kind = some (kindB kind) := by
  unfold impl_isLine.f kindB
  rw [within_eq]; rfl
theorem isPaired_eq (kind : Int) : impl_isPaired.f kind = some (pairB kind) := by
  unfold impl_isPaired.f pairB
  by_cases h : kind = 2
  · simp [h]
  · by_cases h3 : kind = 3
    · simp [h3]
    · simp [h, h3]

/-! lineBefore -/
def beforeN (kind : Int) : Int := if kind = 1 ∨ kind = 3 then -1 else 0

/-! lineMore -/
theorem newWire_eq (kind : Int) : impl_newWire.f kind = some (kind, beforeN kind, 1, -1) := by
  unfold impl_newWire.f beforeN
  by_cases h : kind = 1
  · simp [h]
  · by_cases h3 : kind = 3
    · simp [h3]
    · simp [h, h3]

/-! levelsImpl -/
theorem send_eq {kind s : Int} (h : sOK kind s) (b : Bool) : impl_wire_send.f kind (wLevel kind s) (wNext kind s) (wFrom kind s) b = some (lvOut kind s b, kind, wLevel kind (lvNext kind s b), wNext kind (lvNext kind s b), wFrom kind (lvNext kind s b)) := by
  rcases h with ⟨rfl, rfl⟩ | ⟨rfl, rfl | rfl⟩ | ⟨rfl, rfl⟩ | ⟨rfl, rfl | rfl⟩ | ⟨rfl, rfl | rfl⟩ | ⟨rfl, rfl | rfl | rfl | rfl⟩ <;> cases b <;> decide +kernel
theorem levelsOf_l0 (kind : Int) (t : ByteArray) (ht : t.size ≤ 1048576) : ∀ (d n : Nat) (c : List Int) (s : Int), sOK kind s → c.length ≤ 2 * n → n + d = t.size →
    Ev (fun k => impl_levelsOf.l0 k t c (t.size : Int) (n : Int) kind (wLevel kind s) (wNext kind s) (wFrom kind s)) (c ++ lvGo kind s (t.data.toList.drop n)) := by
  intro d
  induction d with
  | zero =>
    intro n c s hs hc h
    have c1 : ¬ ((n : Int) < (t.size : Int)) := by omega
    have c2 : t.data.toList.drop n = [] := List.drop_eq_nil_of_le (by rw [size_data]; omega)
    apply Ev.succ
    simp only [impl_levelsOf.l0]
    rw [c2, lvGo, List.append_nil]
    exact Ev.cond (fun h' => absurd h' c1) (fun _ => Ev.now _)
  | succ d ih =>
    intro n c s hs hc h
    have hl : n < t.size := by omega
    have c1 : (n : Int) < (t.size : Int) := by omega
    have c2 : (0 : Int) ≤ (n : Int) := by omega
    have hbt : (bt t (n : Int) == 49) = (t[n] == 49) := by
      rw [bt_nat t n hl, Bool.eq_iff_iff, beq_iff_eq, beq_iff_eq]
      constructor
      · intro h'; exact UInt8.toNat_inj.1 (by show (t[n]).toNat = 49; omega)
      · intro h'; rw [h']; rfl
    have hlen := lvOut_len hs (t[n] == 49)
    have hlen2 : (lvOut kind s (t[n] == 49)).length ≤ 2 := by rw [hlen]; split <;> omega
    have h3 := ih (n + 1) (c ++ lvOut kind s (t[n] == 49)) (lvNext kind s (t[n] == 49)) (sOK_next hs _) (by rw [List.length_append]; omega) (by omega)
    rw [List.append_assoc] at h3
    rw [drop_data hl, lvGo]
    apply Ev.succ
    simp only [impl_levelsOf.l0]
    refine Ev.cond (fun _ => ?_) (fun h' => absurd c1 h')
    refine Ev.cond (fun _ => ?_) (fun h' => absurd c2 h')
    refine Ev.cond (fun _ => ?_) (fun h' => absurd c1 h')
    rw [hbt]
    refine Ev.bind (Ev.const (send_eq hs _)) ?_
    refine Ev.cond (fun _ => ?_) (fun h' => absurd (by show c.length + (lvOut kind s (t[n] == 49)).length < 17592186044416; omega) h')
    rw [w64_succ (show n < 9223372036854775807 by omega)]
    exact h3
theorem levelsOf_ev (kind : Int) (hk : kindB kind = true) (t : ByteArray) (ht : t.size ≤ 1048576) : Ev (fun k => impl_levelsOf.f k kind t) (levelsN kind t.data.toList) := by
  unfold impl_levelsOf.f
  have hk' := kinds_of hk
  have e : beforeN kind = wLevel kind (lvStart kind) ∧ (1 : Int) = wNext kind (lvStart kind) ∧ (-1 : Int) = wFrom kind (lvStart kind) := by
    rcases hk' with rfl | rfl | rfl | rfl | rfl | rfl <;> decide
  refine Ev.bind (Ev.const (newWire_eq kind)) ?_
  have h := levelsOf_l0 kind t ht t.size 0 [] (lvStart kind) (sOK_start hk') (by simp) (by omega)
  rw [← e.1, ← e.2.1, ← e.2.2] at h
  exact h

/-! IsBits -/
theorem trim_bits (s : ByteArray) (h : s.size ≤ 9223372036854775807) : strings_Trim.f s (⟨#[48, 49]⟩ : ByteArray) = some ⟨(Lib.trimS s.data.toList [48, 49]).toArray⟩ := by
  unfold strings_Trim.f
  rw [if_pos ⟨h, by decide, by decide⟩]
theorem areBits_eq (s : ByteArray) (h : s.size ≤ 9223372036854775807) : impl_areBits.f s = some (s.data.toList.all isBitB) := by
  unfold impl_areBits.f
  rw [trim_bits s h, Option.bind_some]
  congr 1
  have e1 : (⟨(Lib.trimS s.data.toList [48, 49]).toArray⟩ : ByteArray).toList = Lib.trimS s.data.toList [48, 49] := by rw [Lib.toList_data]
  rw [e1, Bool.eq_iff_iff, beq_iff_eq, trimS_nil]
  have e2 : (fun b => ([48, 49] : List UInt8).contains b) = isBitB := funext contains_bits
  rw [e2]
theorem IsBits_eq (s : ByteArray) (h : s.size ≤ 9223372036854775807) : impl_IsBits.f s = some (bitsB s) := by
  unfold impl_IsBits.f bitsB
  by_cases h4 : s.size ≤ 400
  · have h4' : (s.size : Int) ≤ 400 := by omega
    simp only [h4', if_true, areBits_eq s h, Option.bind_some, h4, decide_true, Bool.and_true]
  · have h4' : ¬ (s.size : Int) ≤ 400 := by omega
    simp only [h4', if_false, h4, decide_false, Bool.and_false]

/-! LevelsOfI -/
def LO_ans (kind : Int) (t : ByteArray) : List Int × Bool := if kindB kind = true ∧ bitsB t = true then (levelsN kind t.data.toList, true) else ([], false)
theorem LO_len (kind : Int) (t : ByteArray) : (LO_ans kind t).1.length ≤ 1048576 := by
  unfold LO_ans
  split
  · rename_i h
    have h2 := h.2
    unfold bitsB at h2
    rw [Bool.and_eq_true] at h2
    have h3 := of_decide_eq_true h2.2
    have hs : sOK kind (lvStart kind) := sOK_start (kinds_of h.1)
    unfold levelsN
    rw [lvGo_len _ hs, size_data]
    split <;> omega
  · exact Nat.zero_le _
theorem LO_impl (kind : Int) (t : ByteArray) (ht : t.size ≤ 1048576) : Ev (fun k => impl_LevelsOf.f k kind t) (LO_ans kind t) := by
  unfold impl_LevelsOf.f LO_ans
  refine Ev.bind (Ev.const (isLine_eq kind)) ?_
  by_cases h1 : kindB kind = true
  · refine Ev.cond (fun _ => ?_) (fun h' => absurd h1 h')
    refine Ev.bind (Ev.const (IsBits_eq t (by omega))) ?_
    by_cases h2 : bitsB t = true
    · refine Ev.cond (fun _ => ?_) (fun h' => absurd h2 h')
      rw [if_pos ⟨h1, h2⟩]
      exact Ev.bind (levelsOf_ev kind h1 t ht) (Ev.now _)
    · refine Ev.cond (fun h' => absurd h' h2) (fun _ => ?_)
      rw [if_neg (fun h => h2 h.2)]
      exact Ev.now _
  · refine Ev.cond (fun h' => absurd h' h1) (fun _ => ?_)
    rw [if_neg (fun h => h1 h.1)]
    exact Ev.now _

/-! areIn -/
theorem areIn_l0 (lo hi : Int) (xs : List Int) (hn : xs.length ≤ 1099511627776) : ∀ d n, n + d = xs.length → Ev (fun k => impl_areIn.l0 k lo hi xs (xs.length : Int) (n : Int)) (inAll lo hi (xs.drop n)) := by
  intro d
  induction d with
  | zero =>
    intro n h
    apply Ev.succ
    have h1 : ¬ ((n : Int) < (xs.length : Int)) := by omega
    have h2 : xs.drop n = [] := List.drop_eq_nil_of_le (by omega)
    simp only [impl_areIn.l0, h1, if_false, h2]
    exact Ev.now true
  | succ d ih =>
    intro n h
    apply Ev.succ
    have h1 : (n : Int) < (xs.length : Int) := by omega
    have h2 : (0 : Int) ≤ (n : Int) := by omega
    have h3 := ih (n + 1) (by omega)
    rw [drop_rd (show n < xs.length by omega), inAll_cons]
    simp only [impl_areIn.l0, h1, h2, if_true, within_eq, Option.bind_some, w64_succ (show n < 9223372036854775807 by omega)]
    by_cases hc : lo ≤ rd xs (n : Int) ∧ rd xs (n : Int) ≤ hi
    · simp only [hc, decide_true, if_true, Bool.true_and, and_self]; exact h3
    · simp only [hc, decide_false, Bool.false_and, Bool.false_eq_true, if_false]; exact Ev.now false
theorem areIn_ev (lo hi : Int) (xs : List Int) (hn : xs.length ≤ 1099511627776) : Ev (fun k => impl_areIn.f k xs lo hi) (inAll lo hi xs) := by
  have h := areIn_l0 lo hi xs hn xs.length 0 (by omega)
  exact h

/-! areLevels -/
theorem areLevels_ev (xs : List Int) (hn : xs.length ≤ 1099511627776) : Ev (fun k => impl_areLevels.f k xs) (levelsB xs) := by
  unfold impl_areLevels.f levelsB
  by_cases h : xs.length ≤ 800
  · have h1 : (xs.length : Int) ≤ 800 := by omega
    simp only [h1, if_true, h, decide_true, Bool.and_true]
    exact Ev.bind (areIn_ev (-1) 1 xs hn) (Ev.now _)
  · have h1 : ¬ (xs.length : Int) ≤ 800 := by omega
    simp only [h1, if_false, h, decide_false, Bool.and_false]
    exact Ev.now _

/-! mxmn -/
theorem mx_eq (a b : Int) : mx a b = max a b := by unfold mx; split <;> omega
theorem mn_eq (a b : Int) : mn a b = min a b := by unfold mn; split <;> omega

/-! LongestFlatI -/
theorem LFi_l0 (xs : List Int) (hn : xs.length ≤ 1099511627776) : ∀ (d n : Nat) (run best : Int), 1 ≤ n → n + d = xs.length → 0 ≤ run → run ≤ n →
    Ev (fun k => impl_LongestFlat.l0 k xs best run xs (xs.length : Int) (n : Int)) (flatR (rd xs ((n - 1 : Nat) : Int)) run best (xs.drop n), true) := by
  intro d
  induction d with
  | zero =>
    intro n run best h1 h hr0 hr
    have c1 : ¬ ((n : Int) < (xs.length : Int)) := by omega
    have c2 : xs.drop n = [] := List.drop_eq_nil_of_le (by omega)
    rw [c2]
    apply Ev.succ
    simp only [impl_LongestFlat.l0]
    exact Ev.cond (fun h' => absurd h' c1) (fun _ => Ev.now _)
  | succ d ih =>
    intro n run best h1 h hr0 hr
    have c1 : (n : Int) < (xs.length : Int) := by omega
    have c2 : (0 : Int) ≤ (n : Int) := by omega
    have c3 : (n : Int) > 0 := by omega
    have e1 : wrap64 ((n : Int) - 1) = ((n - 1 : Nat) : Int) := by rw [w64 (by omega) (by omega)]; omega
    have c4 : (0 : Int) ≤ ((n - 1 : Nat) : Int) := by omega
    have c5 : ((n - 1 : Nat) : Int) < (xs.length : Int) := by omega
    have e2 : wrap64 (run + 1) = run + 1 := w64 (by omega) (by omega)
    have e3 := w64_succ (show n < 9223372036854775807 by omega)
    rw [drop_rd (show n < xs.length by omega)]
    simp only [flatR]
    apply Ev.succ
    simp only [impl_LongestFlat.l0, e1, e2, e3, mx_eq]
    refine Ev.cond (fun _ => ?_) (fun h' => absurd c1 h')
    refine Ev.cond (fun _ => ?_) (fun h' => absurd c2 h')
    refine Ev.cond (fun _ => ?_) (fun h' => absurd c1 h')
    refine Ev.cond (fun _ => ?_) (fun h' => absurd c3 h')
    refine Ev.cond (fun _ => ?_) (fun h' => absurd c4 h')
    refine Ev.cond (fun _ => ?_) (fun h' => absurd c5 h')
    by_cases hc : rd xs (n : Int) = rd xs ((n - 1 : Nat) : Int)
    · rw [if_pos hc]
      refine Ev.cond (fun _ => ?_) (fun h' => absurd hc h')
      have h3 := ih (n + 1) (run + 1) (max best (run + 1)) (by omega) (by omega) (by omega) (by omega)
      exact h3
    · rw [if_neg hc]
      refine Ev.cond (fun h' => absurd h' hc) (fun _ => ?_)
      have h3 := ih (n + 1) 1 (max best 1) (by omega) (by omega) (by omega) (by omega)
      exact h3
theorem LFi_ev (xs : List Int) (hb : levelsB xs = true) : Ev (fun k => impl_LongestFlat.f k xs) (flatN xs, true) := by
  have hn : xs.length ≤ 800 := by
    have h2 := hb
    unfold levelsB at h2; rw [Bool.and_eq_true] at h2; exact of_decide_eq_true h2.2
  unfold impl_LongestFlat.f
  refine Ev.bind (areLevels_ev xs (by omega)) ?_
  refine Ev.cond (fun _ => ?_) (fun h' => absurd hb h')
  apply Ev.succ
  simp only [impl_LongestFlat.l0]
  cases xs with
  | nil => exact Ev.cond (fun h' => absurd h' (by decide)) (fun _ => Ev.now _)
  | cons x r =>
    have c1 : (0 : Int) < (((x :: r).length : Nat) : Int) := by rw [List.length_cons]; omega
    refine Ev.cond (fun _ => ?_) (fun h' => absurd c1 h')
    refine Ev.cond (fun _ => ?_) (fun h' => absurd (by decide) h')
    refine Ev.cond (fun _ => ?_) (fun h' => absurd c1 h')
    refine Ev.cond (fun h' => absurd h' (by decide)) (fun _ => ?_)
    have e : wrap64 (0 + 1) = 1 := by decide +kernel
    rw [e, mx_eq]
    have h3 := LFi_l0 (x :: r) (by omega) r.length 1 1 1 (by omega) (by rw [List.length_cons]; omega) (by omega) (by omega)
    exact h3

/-! ChangesI -/
def chR (prev : Int) : List Int → Int
  | [] => 0
  | x :: r => (if x = prev then 0 else 1) + chR x r
def chN : List Int → Int
  | [] => 0
  | x :: r => chR x r
theorem chR_bd : ∀ (l : List Int) (p : Int), 0 ≤ chR p l ∧ chR p l ≤ l.length := by
  intro l
  induction l with
  | nil => intro p; exact ⟨Int.le_refl _, Int.le_refl _⟩
  | cons x r ih =>
    intro p
    have := ih x
    simp only [chR, List.length_cons]
    split <;> omega
theorem COi_l0 (xs : List Int) (hn : xs.length ≤ 1099511627776) : ∀ (d n : Nat) (c : Int), 1 ≤ n → n + d = xs.length → 0 ≤ c → c ≤ n →
    Ev (fun k => impl_ChangesOf.l0 k xs c xs (xs.length : Int) (n : Int)) (c + chR (rd xs ((n - 1 : Nat) : Int)) (xs.drop n), true) := by
  intro d
  induction d with
  | zero =>
    intro n c h1 h hr0 hr
    have c1 : ¬ ((n : Int) < (xs.length : Int)) := by omega
    have c2 : xs.drop n = [] := List.drop_eq_nil_of_le (by omega)
    rw [c2, chR, Int.add_zero]
    apply Ev.succ
    simp only [impl_ChangesOf.l0]
    exact Ev.cond (fun h' => absurd h' c1) (fun _ => Ev.now _)
  | succ d ih =>
    intro n c h1 h hr0 hr
    have c1 : (n : Int) < (xs.length : Int) := by omega
    have c2 : (0 : Int) ≤ (n : Int) := by omega
    have c3 : (n : Int) > 0 := by omega
    have e1 : wrap64 ((n : Int) - 1) = ((n - 1 : Nat) : Int) := by rw [w64 (by omega) (by omega)]; omega
    have c4 : (0 : Int) ≤ ((n - 1 : Nat) : Int) := by omega
    have c5 : ((n - 1 : Nat) : Int) < (xs.length : Int) := by omega
    have e2 : wrap64 (c + 1) = c + 1 := w64 (by omega) (by omega)
    have e3 := w64_succ (show n < 9223372036854775807 by omega)
    rw [drop_rd (show n < xs.length by omega)]
    simp only [chR]
    apply Ev.succ
    simp only [impl_ChangesOf.l0, e1, e2, e3]
    refine Ev.cond (fun _ => ?_) (fun h' => absurd c1 h')
    refine Ev.cond (fun _ => ?_) (fun h' => absurd c2 h')
    refine Ev.cond (fun _ => ?_) (fun h' => absurd c1 h')
    refine Ev.cond (fun _ => ?_) (fun h' => absurd c3 h')
    refine Ev.cond (fun _ => ?_) (fun h' => absurd c4 h')
    refine Ev.cond (fun _ => ?_) (fun h' => absurd c5 h')
    by_cases hc : rd xs (n : Int) = rd xs ((n - 1 : Nat) : Int)
    · rw [if_pos hc, Int.zero_add]
      refine Ev.cond (fun _ => ?_) (fun h' => absurd hc h')
      exact ih (n + 1) c (by omega) (by omega) (by omega) (by omega)
    · rw [if_neg hc, ← Int.add_assoc]
      refine Ev.cond (fun h' => absurd h' hc) (fun _ => ?_)
      exact ih (n + 1) (c + 1) (by omega) (by omega) (by omega) (by omega)
theorem COi_ev (xs : List Int) (hb : levelsB xs = true) : Ev (fun k => impl_ChangesOf.f k xs) (chN xs, true) := by
  have hn : xs.length ≤ 800 := by
    have h2 := hb
    unfold levelsB at h2; rw [Bool.and_eq_true] at h2; exact of_decide_eq_true h2.2
  unfold impl_ChangesOf.f
  refine Ev.bind (areLevels_ev xs (by omega)) ?_
  refine Ev.cond (fun _ => ?_) (fun h' => absurd hb h')
  apply Ev.succ
  simp only [impl_ChangesOf.l0]
  cases xs with
  | nil => exact Ev.cond (fun h' => absurd h' (by decide)) (fun _ => Ev.now _)
  | cons x r =>
    have c1 : (0 : Int) < (((x :: r).length : Nat) : Int) := by rw [List.length_cons]; omega
    refine Ev.cond (fun _ => ?_) (fun h' => absurd c1 h')
    refine Ev.cond (fun _ => ?_) (fun h' => absurd (by decide) h')
    refine Ev.cond (fun _ => ?_) (fun h' => absurd c1 h')
    refine Ev.cond (fun h' => absurd h' (by decide)) (fun _ => ?_)
    have e : wrap64 (0 + 1) = 1 := by decide +kernel
    rw [e]
    have h3 := COi_l0 (x :: r) (by omega) r.length 1 0 (by omega) (by rw [List.length_cons]; omega) (by omega) (by omega)
    rw [Int.zero_add] at h3
    exact h3

/-! WorstFlatI -/
theorem WF_two (kind : Int) (hk : kind = 2 ∨ kind = 3) (n : Nat) (hn : 1 ≤ n) :
    max (max (flatN (levelsN kind (List.replicate n 48))) (flatN (levelsN kind (List.replicate n 49)))) (flatN (levelsN kind (49 :: List.replicate (n - 1) 48))) = min (n : Int) 2 := by
  have hs : sOK kind (lvStart kind) := sOK_start (by omega)
  have a1 := flatN_pair (lvGo_pair hk (List.replicate n 48) hs)
  have a2 := flatN_pair (lvGo_pair hk (List.replicate n 49) hs)
  have a3 := flatN_pair (lvGo_pair hk (49 :: List.replicate (n - 1) 48) hs)
  by_cases h1 : n = 1
  · subst h1
    rcases hk with rfl | rfl <;> decide
  · obtain ⟨m, rfl⟩ : ∃ m, n = m + 2 := ⟨n - 2, by omega⟩
    have low : ∀ r : List Int, 2 ≤ flatN (-1 :: 1 :: 1 :: -1 :: r) := by
      intro r
      have := flatR_ge r (-1) 1 2
      have e : flatN (-1 :: 1 :: 1 :: -1 :: r) = flatR (-1) 1 2 r := by
        simp only [flatN, flatR]
        rfl
      rw [e]; exact this
    have hm : min ((m + 2 : Nat) : Int) 2 = 2 := by omega
    unfold levelsN
    rw [hm]
    rcases hk with rfl | rfl
    · have e : lvGo 2 (lvStart 2) (49 :: List.replicate (m + 2 - 1) 48) = -1 :: 1 :: 1 :: -1 :: lvGo 2 0 (List.replicate m 48) := by
        rw [show m + 2 - 1 = m + 1 from rfl, List.replicate_succ]; rfl
      have := low (lvGo 2 0 (List.replicate m 48))
      rw [← e] at this
      omega
    · have e : lvGo 3 (lvStart 3) (List.replicate (m + 2) 49) = -1 :: 1 :: 1 :: -1 :: lvGo 3 (-1) (List.replicate m 49) := by
        rw [List.replicate_succ, List.replicate_succ]; rfl
      have := low (lvGo 3 (-1) (List.replicate m 49))
      rw [← e] at this
      omega
theorem WF_one (kind : Int) (hk : kind = 0 ∨ kind = 1 ∨ kind = 4 ∨ kind = 5) (n : Nat) (hn : 1 ≤ n) :
    max (max (flatN (levelsN kind (List.replicate n 48))) (flatN (levelsN kind (List.replicate n 49)))) (flatN (levelsN kind (49 :: List.replicate (n - 1) 48))) = (n : Int) := by
  have hs : sOK kind (lvStart kind) := sOK_start (by omega)
  have hnp : ¬ (kind = 2 ∨ kind = 3) := by omega
  have len : ∀ l : List UInt8, l.length = n → flatN (levelsN kind l) ≤ n := by
    intro l hl
    have h1 := flatN_le (levelsN kind l)
    have h2 : (levelsN kind l).length = n := by
      unfold levelsN
      rw [lvGo_len l hs, if_neg hnp, hl, Nat.one_mul]
    omega
  have a2 := len (List.replicate n 49) (by simp)
  have a3 := len (49 :: List.replicate (n - 1) 48) (by simp; omega)
  have a1 : flatN (levelsN kind (List.replicate n 48)) = n := by
    unfold levelsN
    obtain ⟨v, hv⟩ := lvGo_zeros (kind := kind) (s := lvStart kind) n hnp
    rw [hv, flatN_const]
  omega
def WF_ans (kind count : Int) : Int × Bool := if kindB kind = true ∧ 1 ≤ count ∧ count ≤ 400 then ((if kind = 2 ∨ kind = 3 then min count 2 else count), true) else (0, false)
theorem WF_impl (kind count : Int) : Ev (fun k => impl_WorstFlat.f k kind count) (WF_ans kind count) := by
  unfold impl_WorstFlat.f WF_ans
  refine Ev.bind (Ev.const (isLine_eq kind)) ?_
  by_cases h1 : kindB kind = true
  · refine Ev.cond (fun _ => ?_) (fun h' => absurd h1 h')
    refine Ev.bind (Ev.const (within_eq count 1 400)) ?_
    by_cases h2 : 1 ≤ count ∧ count ≤ 400
    · rw [decide_eq_true h2, if_pos ⟨h1, h2⟩]
      apply Ev.succ
      simp only [impl_WorstFlat.j0, Bool.not_true, Bool.false_eq_true, if_false]
      refine Ev.bind (Ev.const (isPaired_eq kind)) ?_
      rw [mn_eq]
      by_cases hp : kind = 2 ∨ kind = 3
      · rw [if_pos hp]
        exact Ev.cond (fun _ => Ev.now _) (fun h' => absurd (decide_eq_true hp) h')
      · rw [if_neg hp]
        exact Ev.cond (fun h' => absurd (of_decide_eq_true h') hp) (fun _ => Ev.now _)
    · rw [decide_eq_false h2, if_neg (fun h => h2 h.2)]
      apply Ev.succ
      simp only [impl_WorstFlat.j0, Bool.not_false, if_true]
      exact Ev.now _
  · refine Ev.cond (fun h' => absurd h' h1) (fun _ => ?_)
    rw [if_neg (fun h => h1 h.1)]
    apply Ev.succ
    simp only [impl_WorstFlat.j0, if_true]
    exact Ev.now _

/-! r8 -/
theorem wf_u8 {x : Int} (h : (Lit.int .u8 x).wf = true) : 0 ≤ x ∧ x ≤ 255 := by
  have h1 : decide (IntKind.min .u8 ≤ x) = true ∧ decide (x ≤ IntKind.max .u8) = true := by
    simpa [Lit.wf] using h
  obtain ⟨ha, hb⟩ := h1
  have ha := of_decide_eq_true ha
  have hb := of_decide_eq_true hb
  have e1 : IntKind.min .u8 = 0 := by decide
  have e2 : IntKind.max .u8 = 255 := by decide
  rw [e1] at ha
  rw [e2] at hb
  exact ⟨ha, hb⟩
theorem r8At_eq (l : List Int) (h : ∀ x ∈ l, (Lit.int .u8 x).wf = true) (a n : Int) (ha : 0 ≤ a) (hn : 1 ≤ n) : ∃ t, laws_r8At.f l a n = some t ∧ 0 ≤ t ∧ t < n := by
  unfold laws_r8At.f
  by_cases h1 : n ≤ 1
  · exact ⟨0, by rw [if_pos h1], by omega, by omega⟩
  by_cases h2 : a ≥ (l.length : Int)
  · exact ⟨0, by rw [if_neg h1, if_pos h2], by omega, by omega⟩
  obtain ⟨m, rfl⟩ := Int.eq_ofNat_of_zero_le ha
  have hm : m < l.length := by omega
  have hx := wf_u8 (h _ (rd_mem hm))
  have h0 : 0 ≤ Int.tmod (rd l (m : Int)) n := Int.tmod_nonneg _ hx.1
  have h3 : Int.tmod (rd l (m : Int)) n < n := Int.tmod_lt_of_pos _ (by omega)
  refine ⟨Int.tmod (rd l (m : Int)) n, ?_, h0, h3⟩
  rw [if_neg h1, if_neg h2, if_pos (by omega), if_pos (by omega), if_neg (by omega), w64 (by omega) (by omega)]
theorem r8Long_eq (l m : List Int) : ∃ b, laws_r8Long.f l m = some b ∧ (b = false → l.length ≤ 48 ∧ m.length ≤ 48) := by
  unfold laws_r8Long.f
  by_cases h : (l.length : Int) > 48
  · exact ⟨true, by rw [if_pos h], by simp⟩
  · refine ⟨decide ((m.length : Int) > 48), by rw [if_neg h], fun h2 => ?_⟩
    have h3 := of_decide_eq_false h2
    omega

/-! src -/
theorem u64_mod (z : Int) : IntKind.u64.wrap z = z % 18446744073709551616 := by simp [IntKind.wrap, IntKind.bits, IntKind.signed]
theorem u64_and255 (z : Int) : 0 ≤ wrap64 (Go.bits .and .u64 ((IntKind.u64.wrap z) / 1099511627776) 255) ∧ wrap64 (Go.bits .and .u64 ((IntKind.u64.wrap z) / 1099511627776) 255) ≤ 255 := by
  obtain ⟨Y, hY⟩ := Int.eq_ofNat_of_zero_le (show 0 ≤ (IntKind.u64.wrap z) / 1099511627776 by rw [u64_mod]; omega)
  have hlt : Y < 18446744073709551616 := by rw [u64_mod] at hY; omega
  rw [hY]
  have h2 : Go.bits .and .u64 (Y : Int) 255 = ((Y &&& 255 : Nat) : Int) := bits_and_u64_nat Y 255 hlt (by decide)
  rw [h2]
  have h3 : Y &&& 255 ≤ 255 := Nat.and_le_right
  rw [w64 (by omega) (by omega)]
  omega
theorem src_next (l : List Int) (h : ∀ x ∈ l, (Lit.int .u8 x).wf = true) (p : Nat) (hs : Int) (hp : p < 1099511627776) : ∃ v hs', spec_l00Src_next.f l (p : Int) hs = some (v, ((p + 1 : Nat) : Int), hs') ∧ 0 ≤ v ∧ v ≤ 255 := by
  have hw : wrap64 ((p : Int) + 1) = ((p + 1 : Nat) : Int) := w64_succ (by omega)
  unfold spec_l00Src_next.f
  by_cases h1 : p < l.length
  · have hx := wf_u8 (h _ (rd_mem h1))
    rw [if_pos (show (p : Int) < (l.length : Int) by omega), if_pos (show (0 : Int) ≤ (p : Int) by omega), hw, if_pos (show ((p + 1 : Nat) : Int) ≤ (l.length : Int) by omega)]
    refine ⟨_, _, rfl, ?_⟩
    rw [w64 (by omega) (by omega)]
    exact hx
  · rw [if_neg (show ¬ (p : Int) < (l.length : Int) by omega), hw, if_neg (show ¬ ((p + 1 : Nat) : Int) ≤ (l.length : Int) by omega)]
    exact ⟨_, _, rfl, u64_and255 _⟩
theorem src_pick (l : List Int) (h : ∀ x ∈ l, (Lit.int .u8 x).wf = true) (p : Nat) (hs a : Int) (hp : p < 1099511627776) (ha : 2 ≤ a) (ha2 : a ≤ 200) : ∃ v hs', spec_l00Src_pick.f l (p : Int) hs a = some (v, ((p + 1 : Nat) : Int), hs') ∧ 0 ≤ v ∧ v < a := by
  obtain ⟨v, hs', h1, h2, h3⟩ := src_next l h p hs hp
  unfold spec_l00Src_pick.f
  rw [if_neg (by omega), h1, Option.bind_some, if_neg (by omega), if_neg (by omega)]
  exact ⟨_, _, rfl, Int.tmod_nonneg _ h2, Int.tmod_lt_of_pos _ (by omega)⟩

/-! strs -/
theorem str_size (l : List Int) : (strOfNums l).size = l.length := by
  show (strOfNums l).data.size = _
  simp [strOfNums]
theorem bt_str {xs : List Int} {k : Nat} (hk : k < xs.length) (h : 0 ≤ xs[k] ∧ xs[k] ≤ 255) : bt (strOfNums xs) (k : Int) = xs[k] := by
  have hk' : k < (strOfNums xs).size := by rw [str_size]; exact hk
  rw [bt_nat _ _ hk']
  have e : (strOfNums xs)[k]'hk' = UInt8.ofNat (xs[k]).toNat := by
    show (strOfNums xs).data[k]'_ = _
    simp [strOfNums]
  rw [e, UInt8.toNat_ofNat']
  omega
theorem all_bits_iff (s : ByteArray) : s.data.toList.all isBitB = true ↔ ∀ k : Nat, k < s.size → (bt s (k : Int) = 48 ∨ bt s (k : Int) = 49) := by
  rw [List.all_eq_true]
  constructor
  · intro h k hk
    rw [bt_nat s k hk]
    refine (isBit_iff _).1 (h _ ?_)
    rw [← data_get hk]; exact List.getElem_mem _
  · intro h b hb
    obtain ⟨k, hk, rfl⟩ := List.mem_iff_getElem.1 hb
    have hk' : k < s.size := by rw [← size_data]; exact hk
    rw [isBit_iff, data_get hk', ← bt_nat s k hk']
    exact h k hk'
theorem str_ext {s t : ByteArray} (h : s.size = t.size) (h2 : ∀ k : Nat, k < s.size → bt s (k : Int) = bt t (k : Int)) : s = t := by
  apply ByteArray.ext
  apply Array.ext
  · exact h
  · intro k h3 h4
    have e := h2 k h3
    rw [bt_nat s k h3, bt_nat t k h4] at e
    exact UInt8.toNat_inj.1 (by exact_mod_cast e)

/-! R8Bits -/
theorem src_one (l : List Int) (h : ∀ x ∈ l, (Lit.int .u8 x).wf = true) (p : Nat) (hs : Int) (hp : p < 1099511627776) : ∃ b hs', spec_l00Src_one.f l (p : Int) hs 2 = some (b, ((p + 1 : Nat) : Int), hs') := by
  obtain ⟨v, hs', h1, h2, h3⟩ := src_pick l h p hs 2 hp (by omega) (by omega)
  unfold spec_l00Src_one.f
  rw [h1, Option.bind_some]
  exact ⟨_, _, rfl⟩
theorem R8Bits_l0 (l : List Int) (h : ∀ x ∈ l, (Lit.int .u8 x).wf = true) : ∀ (d : Nat) (xs : List Int) (p : Nat) (hs : Int), p + 2 * d ≤ 1000000 → xs.length + d ≤ 1000 → (∀ x ∈ xs, x = 48 ∨ x = 49) →
    ∃ ys, Ev (fun k => spec_R8Bits.l0 k xs (d : Int) l (p : Int) hs) (strOfNums ys) ∧ ys.length = xs.length + d ∧ ∀ x ∈ ys, x = 48 ∨ x = 49 := by
  intro d
  induction d with
  | zero =>
    intro xs p hs h1 h2 hx
    have c1 : ¬ ((0 : Nat) : Int) > 0 := by omega
    refine ⟨xs, Ev.succ ?_, rfl, hx⟩
    simp only [spec_R8Bits.l0]
    refine Ev.cond (fun h' => absurd h' c1) (fun _ => Ev.now _)
  | succ d ih =>
    intro xs p hs h1 h2 hx
    have c1 : ((d + 1 : Nat) : Int) > 0 := by omega
    have c2 : xs.length < 140737488355328 := by omega
    have hw : wrap64 (((d + 1 : Nat) : Int) - 1) = (d : Int) := by rw [w64 (by omega) (by omega)]; omega
    obtain ⟨v, hs1, e1, v0, v1⟩ := src_pick l h p hs 2 (by omega) (by omega) (by omega)
    obtain ⟨b, hs2, e2⟩ := src_one l h (p + 1) hs1 (by omega)
    have hv : (wrap64 (48 + v)) % 256 = 48 ∨ (wrap64 (48 + v)) % 256 = 49 := by
      rw [w64 (by omega) (by omega)]; omega
    have app : ∀ y : Int, (y = 48 ∨ y = 49) → ∀ x ∈ xs ++ [y], x = 48 ∨ x = 49 := by
      intro y hy x hm
      rcases List.mem_append.1 hm with hm | hm
      · exact hx x hm
      · rw [List.mem_singleton] at hm; rw [hm]; exact hy
    by_cases h0 : (xs.length : Int) > 0
    · have hlast : wrap64 ((xs.length : Int) - 1) = ((xs.length - 1 : Nat) : Int) := by rw [w64 (by omega) (by omega)]; omega
      have c3 : (0 : Int) ≤ ((xs.length - 1 : Nat) : Int) := by omega
      have c4 : ((xs.length - 1 : Nat) : Int) < (xs.length : Int) := by omega
      by_cases hb : b = true
      · have hr : rd xs ((xs.length - 1 : Nat) : Int) = 48 ∨ rd xs ((xs.length - 1 : Nat) : Int) = 49 := hx _ (rd_mem (by omega))
        obtain ⟨ys, y1, y2, y3⟩ := ih (xs ++ [rd xs ((xs.length - 1 : Nat) : Int)]) (p + 2) hs2 (by omega) (by rw [List.length_append, List.length_singleton]; omega) (app _ hr)
        refine ⟨ys, Ev.succ ?_, by rw [y2, List.length_append, List.length_singleton]; omega, y3⟩
        simp only [spec_R8Bits.l0, hw, hlast]
        refine Ev.cond (fun _ => ?_) (fun h' => absurd c1 h')
        refine Ev.bind (Ev.const e1) ?_
        refine Ev.cond (fun _ => ?_) (fun h' => absurd h0 h')
        refine Ev.bind (Ev.const e2) ?_
        refine Ev.cond (fun _ => ?_) (fun h' => absurd hb h')
        refine Ev.cond (fun _ => ?_) (fun h' => absurd c3 h')
        refine Ev.cond (fun _ => ?_) (fun h' => absurd c4 h')
        exact Ev.cond (fun _ => y1) (fun h' => absurd c2 h')
      · obtain ⟨ys, y1, y2, y3⟩ := ih (xs ++ [(wrap64 (48 + v)) % 256]) (p + 2) hs2 (by omega) (by rw [List.length_append, List.length_singleton]; omega) (app _ hv)
        refine ⟨ys, Ev.succ ?_, by rw [y2, List.length_append, List.length_singleton]; omega, y3⟩
        simp only [spec_R8Bits.l0, hw, hlast]
        refine Ev.cond (fun _ => ?_) (fun h' => absurd c1 h')
        refine Ev.bind (Ev.const e1) ?_
        refine Ev.cond (fun _ => ?_) (fun h' => absurd h0 h')
        refine Ev.bind (Ev.const e2) ?_
        refine Ev.cond (fun h' => absurd h' hb) (fun _ => ?_)
        exact Ev.cond (fun _ => y1) (fun h' => absurd c2 h')
    · obtain ⟨ys, y1, y2, y3⟩ := ih (xs ++ [(wrap64 (48 + v)) % 256]) (p + 1) hs1 (by omega) (by rw [List.length_append, List.length_singleton]; omega) (app _ hv)
      refine ⟨ys, Ev.succ ?_, by rw [y2, List.length_append, List.length_singleton]; omega, y3⟩
      simp only [spec_R8Bits.l0, hw]
      refine Ev.cond (fun _ => ?_) (fun h' => absurd c1 h')
      refine Ev.bind (Ev.const e1) ?_
      refine Ev.cond (fun h' => absurd h' h0) (fun _ => ?_)
      exact Ev.cond (fun _ => y1) (fun h' => absurd c2 h')
theorem str_bits {ys : List Int} (h : ∀ x ∈ ys, x = 48 ∨ x = 49) : (strOfNums ys).data.toList.all isBitB = true := by
  rw [List.all_eq_true]
  intro b hb
  have e : (strOfNums ys).data.toList = ys.map fun n => UInt8.ofNat n.toNat := by simp [strOfNums]
  rw [e, List.mem_map] at hb
  obtain ⟨x, hx, rfl⟩ := hb
  rcases h x hx with rfl | rfl <;> decide
theorem R8Bits_ev (l : List Int) (h : ∀ x ∈ l, (Lit.int .u8 x).wf = true) (n : Nat) (hn1 : 1 ≤ n) (hn : n ≤ 100) : ∃ s : ByteArray, Ev (fun k => spec_R8Bits.f k l (n : Int)) s ∧ s.size ≤ n ∧ s.data.toList.all isBitB = true := by
  have hw : wrap64 ((n : Int) + 1) = (n : Int) + 1 := w64 (by omega) (by omega)
  obtain ⟨v, hs, e1, v0, v1⟩ := src_pick l h 0 0 ((n : Int) + 1) (by omega) (by omega) (by omega)
  obtain ⟨v, rfl⟩ := Int.eq_ofNat_of_zero_le v0
  obtain ⟨ys, y1, y2, y3⟩ := R8Bits_l0 l h v [] 1 hs (by omega) (by simp; omega) (by simp)
  refine ⟨strOfNums ys, ?_, by rw [str_size, y2, List.length_nil]; omega, str_bits y3⟩
  unfold spec_R8Bits.f spec_l00From.f
  refine Ev.bind (Ev.const rfl) ?_
  rw [hw]
  exact Ev.bind (Ev.const e1) y1

/-! bitAt -/
theorem bit_at (x i : Nat) (hx : x < 2 ^ 62) (hi : i ≤ 63) : Go.bits .and .i64 (shr .i64 (x : Int) (i : Int)) 1 = ((x / 2 ^ i % 2 : Nat) : Int) := by
  rw [shr_nat _ _ hi]
  have e := bits_and (a := x / 2 ^ i) (b := 1) (Nat.lt_of_le_of_lt (Nat.div_le_self _ _) hx) (by decide)
  rw [Nat.and_one_is_mod] at e
  exact e
theorem shl_one {n : Nat} (h : n ≤ 61) : shl .i64 1 (n : Int) = ((2 ^ n : Nat) : Int) := by
  unfold shl
  have e : min (n : Int).toNat IntKind.i64.bits = n := by
    have : IntKind.i64.bits = 64 := rfl
    rw [this, Int.toNat_natCast]; omega
  have hlt : 2 ^ n < 2 ^ 62 := Nat.pow_lt_pow_right (by decide) (by omega)
  rw [e, Int.one_mul, IntKind.wrap_i64]
  have e2 : (2 : Int) ^ n = ((2 ^ n : Nat) : Int) := by push_cast; rfl
  rw [e2]
  generalize 2 ^ n = q at hlt ⊢
  omega

def wfv (kind : Int) (n : Nat) : Int := if kind = 2 ∨ kind = 3 then min (n : Int) 2 else (n : Int)
theorem flat_le (kind : Int) (hk : kindB kind = true) (l : List UInt8) (hl : 1 ≤ l.length) : flatN (levelsN kind l) ≤ wfv kind l.length := by
  have hs : sOK kind (lvStart kind) := sOK_start (kinds_of hk)
  unfold wfv
  by_cases hp : kind = 2 ∨ kind = 3
  · rw [if_pos hp]
    by_cases h1 : l.length = 1
    · obtain ⟨c, rfl⟩ : ∃ c, l = [c] := List.length_eq_one_iff.1 h1
      unfold levelsN
      simp only [lvGo, List.append_nil, List.length_singleton]
      generalize (c == 49) = b
      rcases hp with rfl | rfl <;> cases b <;> decide
    · have := flatN_pair (lvGo_pair hp l hs)
      unfold levelsN
      omega
  · rw [if_neg hp]
    have h1 := flatN_le (levelsN kind l)
    have h2 : (levelsN kind l).length = l.length := by
      unfold levelsN
      rw [lvGo_len l hs, if_neg hp, Nat.one_mul]
    omega
theorem flat_some (kind : Int) (hk : kindB kind = true) (n : Nat) (hn : 1 ≤ n) :
    flatN (levelsN kind (List.replicate n 48)) = wfv kind n ∨ flatN (levelsN kind (List.replicate n 49)) = wfv kind n ∨ flatN (levelsN kind (49 :: List.replicate (n - 1) 48)) = wfv kind n := by
  unfold wfv
  by_cases hp : kind = 2 ∨ kind = 3
  · rw [if_pos hp]
    have := WF_two kind hp n hn
    omega
  · rw [if_neg hp]
    have := WF_one kind (by have := kinds_of hk; omega) n hn
    omega
theorem dgB_all (S : Nat) (h1 : 1 ≤ S) (h2 : S ≤ 7) : dgB 0 S = List.replicate S 48 ∧ dgB (2 ^ S - 1) S = List.replicate S 49 ∧ dgB (2 ^ (S - 1)) S = 49 :: List.replicate (S - 1) 48 := by
  have : S = 1 ∨ S = 2 ∨ S = 3 ∨ S = 4 ∨ S = 5 ∨ S = 6 ∨ S = 7 := by omega
  rcases this with rfl | rfl | rfl | rfl | rfl | rfl | rfl <;> decide
theorem LO_bits (kind : Int) (hk : kindB kind = true) (s : ByteArray) (h1 : s.size ≤ 400) (hb : s.data.toList.all isBitB = true) : Ev (fun k => impl_LevelsOf.f k kind s) (levelsN kind s.data.toList, true) := by
  have h := LO_impl kind s (by omega)
  have htB : bitsB s = true := by unfold bitsB; rw [hb, decide_eq_true h1]; rfl
  unfold LO_ans at h
  rw [if_pos ⟨hk, htB⟩] at h
  exact h
theorem LV_B (kind : Int) (hk : kindB kind = true) (l : List UInt8) (h1 : l.length ≤ 400) : levelsB (levelsN kind l) = true := by
  have hs : sOK kind (lvStart kind) := sOK_start (kinds_of hk)
  unfold levelsB levelsN
  rw [inAll_of (lvGo_in l hs), lvGo_len l hs, Bool.true_and]
  exact decide_eq_true (by split <;> omega)
def FFinv (kind : Int) (S : Nat) (best : Int) (x : Nat) : Prop := 0 ≤ best ∧ best ≤ wfv kind S ∧ ∀ y, y < x → flatN (levelsN kind (dgB y S)) ≤ best
theorem FF_l2 (kind : Int) (hk : kindB kind = true) (S x : Nat) (h1 : 1 ≤ S) (h2 : S ≤ 7) (hx : x < 2 ^ 62) (best : Int) (hinv : FFinv kind S best x)
    (next : ∀ b, FFinv kind S b (x + 1) → Ev (fun k => laws_FnFlats.l1 k kind (S : Int) b ((x + 1 : Nat) : Int)) true) :
    ∀ (w : Nat) (s : ByteArray), w ≤ S → s.data.toList ++ dgB x w = dgB x S →
    Ev (fun k => laws_FnFlats.l2 k kind (S : Int) best (x : Int) s ((w : Int) - 1)) true := by
  intro w
  induction w with
  | zero =>
    intro s hw hs
    have c1 : ¬ (((0 : Nat) : Int) - 1 ≥ 0) := by omega
    rw [dgB, List.append_nil] at hs
    have hsz : s.size = S := by rw [← size_data, hs, dgB_length]
    have hb : s.data.toList.all isBitB = true := by rw [hs]; exact dgB_bits x S
    have hxs := w64_succ (show x < 9223372036854775807 by omega)
    have hlo := LO_bits kind hk s (by omega) hb
    rw [hs] at hlo
    have hlf := LFi_ev _ (LV_B kind hk (dgB x S) (by rw [dgB_length]; omega))
    have hle := flat_le kind hk (dgB x S) (by rw [dgB_length]; exact h1)
    rw [dgB_length] at hle
    have hge := flatN_ge (levelsN kind (dgB x S))
    apply Ev.succ
    simp only [laws_FnFlats.l2]
    refine Ev.cond (fun h' => absurd h' c1) (fun _ => ?_)
    refine Ev.bind hlo (Ev.bind hlf ?_)
    refine Ev.cond (fun _ => ?_) (fun h' => absurd (by trivial) h')
    apply Ev.succ
    simp only [laws_FnFlats.j4]
    refine Ev.cond (fun h' => absurd h' (by decide)) (fun _ => ?_)
    rw [hxs]
    obtain ⟨b0, b1, b2⟩ := hinv
    by_cases hg : flatN (levelsN kind (dgB x S)) > best
    · refine Ev.cond (fun _ => ?_) (fun h' => absurd hg h')
      refine next _ ⟨hge, hle, fun y hy => ?_⟩
      by_cases e : y = x
      · rw [e]; exact Int.le_refl _
      · have := b2 y (by omega); omega
    · refine Ev.cond (fun h' => absurd h' hg) (fun _ => ?_)
      refine next _ ⟨b0, b1, fun y hy => ?_⟩
      by_cases e : y = x
      · rw [e]; omega
      · exact b2 y (by omega)
  | succ w ih =>
    intro s hw hs
    have e0 : (((w + 1 : Nat) : Int) - 1) = (w : Int) := by omega
    have c1 : (w : Int) ≥ 0 := by omega
    have c2 : (0 : Int) ≤ (w : Int) := by omega
    have hu : IntKind.u64.wrap (w : Int) = (w : Int) := u64_nat (by omega)
    have e1 := bit_at x w hx (by omega)
    have e3 : wrap64 ((w : Int) - 1) = (w : Int) - 1 := w64 (by omega) (by omega)
    have hbit : x / 2 ^ w % 2 = 0 ∨ x / 2 ^ w % 2 = 1 := by omega
    rw [dgB] at hs
    rw [e0]
    apply Ev.succ
    simp only [laws_FnFlats.l2, hu, e1, e3]
    refine Ev.cond (fun _ => ?_) (fun h' => absurd c1 h')
    refine Ev.cond (fun _ => ?_) (fun h' => absurd c2 h')
    refine Ev.bind (Ev.const rfl) ?_
    have hsz : s.size ≤ 9 := by
      have := congrArg List.length hs
      rw [List.length_append, size_data, dgB_length, List.length_cons] at this; omega
    have c3 : ∀ v : Int, s.size + (strOfNums ([v] : List Int)).size ≤ 9223372036854775807 := by
      intro v; rw [str_size, List.length_singleton]; omega
    refine Ev.cond (fun _ => ?_) (fun h' => absurd (c3 _) h')
    rcases hbit with hb | hb
    · rw [hb]
      rw [if_neg (show ¬ x / 2 ^ w % 2 = 1 by omega)] at hs
      have e4 : strOfNums ([wrap64 (48 + ((0 : Nat) : Int)) % 256] : List Int) = (⟨#[48]⟩ : ByteArray) := by decide +kernel
      rw [e4]
      refine ih _ (by omega) ?_
      rw [ByteArray.data_append, Array.toList_append, List.append_assoc]
      exact hs
    · rw [hb]
      rw [if_pos hb] at hs
      have e4 : strOfNums ([wrap64 (48 + ((1 : Nat) : Int)) % 256] : List Int) = (⟨#[49]⟩ : ByteArray) := by decide +kernel
      rw [e4]
      refine ih _ (by omega) ?_
      rw [ByteArray.data_append, Array.toList_append, List.append_assoc]
      exact hs
theorem WFi (kind : Int) (hk : kindB kind = true) (n : Nat) (h1 : 1 ≤ n) (h2 : n ≤ 400) : Ev (fun k => impl_WorstFlat.f k kind (n : Int)) (wfv kind n, true) := by
  have h := WF_impl kind (n : Int)
  unfold WF_ans at h
  rw [if_pos ⟨hk, by omega, by omega⟩] at h
  exact h
theorem FF_l1 (kind : Int) (hk : kindB kind = true) (S : Nat) (h1 : 1 ≤ S) (h2 : S ≤ 7) (Q : Nat) (hQ : 2 ^ S = Q) (hQ2 : Q ≤ 512) :
    ∀ (d x : Nat) (best : Int), x + d = Q → FFinv kind S best x → Ev (fun k => laws_FnFlats.l1 k kind (S : Int) best (x : Int)) true := by
  have hu : IntKind.u64.wrap (S : Int) = (S : Int) := u64_nat (by omega)
  have hs : shl .i64 1 (S : Int) = (Q : Int) := by rw [shl_one (by omega), hQ]
  have c0 : (0 : Int) ≤ (S : Int) := by omega
  intro d
  induction d with
  | zero =>
    intro x best h hinv
    obtain rfl : x = Q := by omega
    have c1 : ¬ (x : Int) < (x : Int) := by omega
    obtain ⟨b0, b1, b2⟩ := hinv
    have hb : wfv kind S = best := by
      obtain ⟨d1, d2, d3⟩ := dgB_all S h1 h2
      have p1 := Nat.two_pow_pos S
      have p2 : 2 ^ (S - 1) < x := by rw [← hQ]; exact Nat.pow_lt_pow_right (by decide) (by omega)
      have q1 := b2 0 (by omega)
      have q2 := b2 (2 ^ S - 1) (by omega)
      have q3 := b2 (2 ^ (S - 1)) p2
      rw [d1] at q1
      rw [d2] at q2
      rw [d3] at q3
      rcases flat_some kind hk S h1 with e | e | e
      · omega
      · omega
      · omega
    apply Ev.succ
    simp only [laws_FnFlats.l1, hu, hs]
    refine Ev.cond (fun _ => ?_) (fun h' => absurd c0 h')
    refine Ev.cond (fun h' => absurd h' c1) (fun _ => ?_)
    refine Ev.bind (WFi kind hk S h1 (by omega)) ?_
    refine Ev.cond (fun _ => ?_) (fun h' => absurd (by trivial) h')
    have e : (wfv kind S == best) = true := beq_iff_eq.2 hb
    rw [e]
    exact Ev.now _
  | succ d ih =>
    intro x best h hinv
    have c1 : (x : Int) < (Q : Int) := by omega
    have e : wrap64 ((S : Int) - 1) = (S : Int) - 1 := w64 (by omega) (by omega)
    apply Ev.succ
    simp only [laws_FnFlats.l1, hu, hs, e]
    refine Ev.cond (fun _ => ?_) (fun h' => absurd c0 h')
    refine Ev.cond (fun _ => ?_) (fun h' => absurd c1 h')
    exact FF_l2 kind hk S x h1 h2 (by omega) best hinv (fun b hb => ih (x + 1) b (by omega) hb) S ⟨#[]⟩ (Nat.le_refl _) rfl
theorem FF_l0 (l : List Int) (hlw : ∀ x ∈ l, (Lit.int .u8 x).wf = true) (kind : Int) (hk : kindB kind = true) (xs : List Int) (hn : xs.length ≤ 1099511627776) :
    ∀ (d n : Nat) (e : Int), 1 ≤ n → n + d = xs.length → 0 ≤ e → e ≤ n → e = (n : Int) - 1 - (chN xs - chR (rd xs ((n - 1 : Nat) : Int)) (xs.drop n)) → Ev (fun k => laws_FnFlats.l0 k l kind xs (chN xs) e (n : Int)) true := by
  intro d
  induction d with
  | zero =>
    intro n e h1 h e0 e1 he
    have c1 : ¬ ((n : Int) < (xs.length : Int)) := by omega
    have c2 : xs.drop n = [] := List.drop_eq_nil_of_le (by omega)
    rw [c2, chR] at he
    have hw1 : wrap64 (e + chN xs) = (xs.length : Int) - 1 := by rw [w64 (by omega) (by omega)]; omega
    have hw2 : wrap64 ((xs.length : Int) - 1) = (xs.length : Int) - 1 := w64 (by omega) (by omega)
    obtain ⟨t, ht, ht0, ht1⟩ := r8At_eq l hlw 1 7 (by omega) (by omega)
    obtain ⟨t, rfl⟩ := Int.eq_ofNat_of_zero_le ht0
    have w1 : wrap64 (1 + (t : Int)) = ((t + 1 : Nat) : Int) := by rw [w64 (by omega) (by omega)]; omega
    have hpow : 2 ^ (t + 1) ≤ 512 := Nat.le_trans (Nat.pow_le_pow_right (show 0 < 2 by decide) (show t + 1 ≤ 7 by omega)) (by decide)
    have h3 := FF_l1 kind hk (t + 1) (by omega) (by omega) _ rfl hpow (2 ^ (t + 1)) 0 0 (by omega) ⟨Int.le_refl _, by unfold wfv; split <;> omega, by intro y hy; omega⟩
    apply Ev.succ
    simp only [laws_FnFlats.l0, hw1, hw2]
    refine Ev.cond (fun h' => absurd h' c1) (fun _ => ?_)
    refine Ev.cond (fun _ => ?_) (fun h' => absurd (by trivial) h')
    refine Ev.bind (Ev.const ht) ?_
    rw [w1]
    exact h3
  | succ d ih =>
    intro n e h1 h e0 e1 he
    have c1 : (n : Int) < (xs.length : Int) := by omega
    have c2 : (0 : Int) ≤ (n : Int) := by omega
    have w1 : wrap64 ((n : Int) - 1) = ((n - 1 : Nat) : Int) := by rw [w64 (by omega) (by omega)]; omega
    have c4 : (0 : Int) ≤ ((n - 1 : Nat) : Int) := by omega
    have c5 : ((n - 1 : Nat) : Int) < (xs.length : Int) := by omega
    have w2 : wrap64 (e + 1) = e + 1 := w64 (by omega) (by omega)
    have w3 := w64_succ (show n < 9223372036854775807 by omega)
    rw [drop_rd (show n < xs.length by omega), chR] at he
    apply Ev.succ
    simp only [laws_FnFlats.l0, w1, w2, w3]
    refine Ev.cond (fun _ => ?_) (fun h' => absurd c1 h')
    refine Ev.cond (fun _ => ?_) (fun h' => absurd c2 h')
    refine Ev.cond (fun _ => ?_) (fun h' => absurd c4 h')
    refine Ev.cond (fun _ => ?_) (fun h' => absurd c5 h')
    by_cases hc : rd xs (n : Int) = rd xs ((n - 1 : Nat) : Int)
    · rw [if_pos hc] at he
      refine Ev.cond (fun _ => ?_) (fun h' => absurd hc h')
      exact ih (n + 1) (e + 1) (by omega) (by omega) (by omega) (by omega) (by rw [Nat.add_sub_cancel]; omega)
    · rw [if_neg hc] at he
      refine Ev.cond (fun h' => absurd h' hc) (fun _ => ?_)
      exact ih (n + 1) e (by omega) (by omega) (by omega) (by omega) (by rw [Nat.add_sub_cancel]; omega)
theorem FnFlats : laws_FnFlats.Pure := by
  intro l m hl hl2 hlw hm hm2 hmw
  refine Ev.rounds ?_
  unfold laws_FnFlats.f
  obtain ⟨b, hb, _⟩ := r8Long_eq l m
  refine Ev.bind (Ev.const hb) ?_
  refine Ev.cond (fun _ => Ev.now _) (fun _ => ?_)
  obtain ⟨kind, hkd, hk0, hk1⟩ := r8At_eq l hlw 0 6 (by omega) (by omega)
  obtain ⟨t0, ht, hts, htb⟩ := R8Bits_ev m hmw 11 (by omega) (by omega)
  have hk : kindB kind = true := decide_eq_true (by omega)
  have hsz : (t0 ++ (⟨#[48]⟩ : ByteArray)).size = t0.size + 1 := by rw [ByteArray.size_append]; rfl
  have hall : (t0 ++ (⟨#[48]⟩ : ByteArray)).data.toList.all isBitB = true := by
    rw [ByteArray.data_append, Array.toList_append, List.all_append, htb]; decide
  refine Ev.bind (Ev.const hkd) (Ev.bind ht ?_)
  refine Ev.cond (fun _ => ?_) (fun h' => absurd (by omega) h')
  generalize t0 ++ (⟨#[48]⟩ : ByteArray) = t at hsz hall
  have hlo := LO_bits kind hk t (by omega) hall
  have hlen : t.data.toList.length = t.size := size_data t
  have hLB := LV_B kind hk t.data.toList (by omega)
  have hlf := LFi_ev _ hLB
  have hco := COi_ev _ hLB
  have hwf := WFi kind hk t.size (by omega) (by omega)
  have hle := flat_le kind hk t.data.toList (by omega)
  rw [hlen] at hle
  have hs : sOK kind (lvStart kind) := sOK_start (kinds_of hk)
  have hl1 : 1 ≤ (levelsN kind t.data.toList).length ∧ (levelsN kind t.data.toList).length ≤ 800 := by
    unfold levelsN
    rw [lvGo_len _ hs, hlen]
    split <;> omega
  generalize levelsN kind t.data.toList = L at hlo hLB hlf hco hle hl1
  have hge : 1 ≤ flatN L := by
    cases L with
    | nil => simp at hl1
    | cons x r => have := flatR_ge r x 1 1; simp only [flatN]; exact this
  refine Ev.bind hlo (Ev.bind hlf (Ev.bind hwf (Ev.bind hco ?_)))
  refine Ev.cond (fun _ => ?_) (fun h' => absurd (by trivial) h')
  refine Ev.cond (fun _ => ?_) (fun h' => absurd (by trivial) h')
  refine Ev.cond (fun _ => ?_) (fun h' => absurd (by trivial) h')
  refine Ev.cond (fun _ => ?_) (fun h' => absurd (by trivial) h')
  refine Ev.cond (fun h' => absurd h' (by omega)) (fun _ => ?_)
  have e : decide (flatN L > wfv kind t.size) = false := decide_eq_false (by omega)
  rw [e]
  apply Ev.succ
  simp only [laws_FnFlats.j0]
  refine Ev.cond (fun h' => absurd h' (by decide)) (fun _ => ?_)
  have h3 := FF_l0 l hlw kind hk L (by omega) (L.length - 1) 1 0 (by omega) (by omega) (by omega) (by omega) (by
    cases L with
    | nil => simp at hl1
    | cons x r =>
      show (0 : Int) = 1 - 1 - (chR x r - chR x r)
      omega)
  exact h3

end Go.Proofs.YtckjcighblnnfaaDoor.Pure
