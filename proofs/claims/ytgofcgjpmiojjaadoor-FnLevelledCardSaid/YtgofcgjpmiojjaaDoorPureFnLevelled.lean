/- Levels are read as their bits and show no error; sums of halves stay between -1 and 1, and those of alternating marks between 0 and 1. -/
import Derived.Test.YtgofcgjpmiojjaaDoorQFnLevelledx7
import Derived.Test.YtgofcgjpmiojjaaDoorBase
import Derived.Test.YtgofcgjpmiojjaaDoorLevels
namespace Go.Proofs.YtgofcgjpmiojjaaDoor.Pure
open Go.RowKit Go.Proofs.YtgofcgjpmiojjaaDoor.QFnLevelled Go.Proofs.YtgofcgjpmiojjaaDoor.Base Go.Proofs.YtgofcgjpmiojjaaDoorW.PrintWords Go.Proofs.YtgofcgjpmiojjaaDoorW.PrintLast Go.Proofs.YtgofcgjpmiojjaaDoorW.PrintMore
open Go.Proofs.YtgofcgjpmiojjaaDoor.Levels
set_option linter.unusedVariables false
set_option linter.unusedSimpArgs false

/-! within -/
theorem within_eq (a b c : Int) : impl_within.f a b c = some (decide (b ≤ a ∧ a ≤ c)) := by
  unfold impl_within.f
  by_cases h : b ≤ a
  · simp [h, ge_iff_le]
  · simp [h, ge_iff_le]

/-! l00In -/

/-! lineKinds -/
def kindB (kind : Int) : Bool := decide (0 ≤ kind ∧ kind ≤ 5)
def pairB (kind : Int) : Bool := decide (kind = 2 ∨ kind = 3)
def perN (kind : Int) : Int := if kind = 2 ∨ kind = 3 then 2 else 1
theorem kinds_of {kind : Int} (h : kindB kind = true) : kind = 0 ∨ kind = 1 ∨ kind = 2 ∨ kind = 3 ∨ kind = 4 ∨ kind = 5 := by
  have h := of_decide_eq_true h
  omega
theorem isLine_eq (kind : Int) : impl_isLine.f kind = some (kindB kind) := by
  unfold impl_isLine.f kindB
  rw [within_eq]; rfl
theorem isPaired_eq (kind : Int) : impl_isPaired.f kind = some (pairB kind) := by
  unfold impl_isPaired.f pairB
  by_cases h : kind = 2
  · simp [h]
  · by_cases h3 : kind = 3
    · simp [h3]
    · simp [h, h3]

/-! lineBefore -/
def beforeN (kind : Int) : Int := if kind = 1 ∨ kind = 3 then -1 else 0

/-! lineMore -/
theorem perBit_eq (kind : Int) : impl_perBit.f kind = some (perN kind) := by
  unfold impl_perBit.f perN
  rw [isPaired_eq]
  unfold pairB
  by_cases h : kind = 2 ∨ kind = 3
  · simp [h]
  · simp [h]
theorem newWire_eq (kind : Int) : impl_newWire.f kind = some (kind, beforeN kind, 1, -1) := by
  unfold impl_newWire.f beforeN
  by_cases h : kind = 1
  · simp [h]
  · by_cases h3 : kind = 3
    · simp [h3]
    · simp [h, h3]
theorem bitOf_eq (b : Bool) : impl_bitOf.f b = some (bitStr b) := by cases b <;> rfl

/-! levelsImpl -/
theorem send_eq {kind s : Int} (h : sOK kind s) (b : Bool) : impl_wire_send.f kind (wLevel kind s) (wNext kind s) (wFrom kind s) b = some (lvOut kind s b, kind, wLevel kind (lvNext kind s b), wNext kind (lvNext kind s b), wFrom kind (lvNext kind s b)) := by
  rcases h with ⟨rfl, rfl⟩ | ⟨rfl, rfl | rfl⟩ | ⟨rfl, rfl⟩ | ⟨rfl, rfl | rfl⟩ | ⟨rfl, rfl | rfl⟩ | ⟨rfl, rfl | rfl | rfl | rfl⟩ <;> cases b <;> decide +kernel
theorem levelsOf_l0 (kind : Int) (t : ByteArray) (ht : t.size ≤ 1048576) : ∀ (d n : Nat) (c : List Int) (s : Int), sOK kind s → c.length ≤ 2 * n → n + d = t.size →
    Ev (fun k => impl_levelsOf.l0 k t c (t.size : Int) (n : Int) kind (wLevel kind s) (wNext kind s) (wFrom kind s)) (c ++ lvGo kind s (t.data.toList.drop n)) := by
  intro d
  induction d with
  | zero =>
    intro n c s hs hc h
    have c1 : ¬ ((n : Int) < (t.size : Int)) := by omega
    have c2 : t.data.toList.drop n = [] := List.drop_eq_nil_of_le (by rw [size_data]; omega)
    apply Ev.succ
    simp only [impl_levelsOf.l0]
    rw [c2, lvGo, List.append_nil]
    exact Ev.cond (fun h' => absurd h' c1) (fun _ => Ev.now _)
  | succ d ih =>
    intro n c s hs hc h
    have hl : n < t.size := by omega
    have c1 : (n : Int) < (t.size : Int) := by omega
    have c2 : (0 : Int) ≤ (n : Int) := by omega
    have hbt : (bt t (n : Int) == 49) = (t[n] == 49) := by
      rw [bt_nat t n hl, Bool.eq_iff_iff, beq_iff_eq, beq_iff_eq]
      constructor
      · intro h'; exact UInt8.toNat_inj.1 (by show (t[n]).toNat = 49; omega)
      · intro h'; rw [h']; rfl
    have hlen := lvOut_len hs (t[n] == 49)
    have hlen2 : (lvOut kind s (t[n] == 49)).length ≤ 2 := by rw [hlen]; split <;> omega
    have h3 := ih (n + 1) (c ++ lvOut kind s (t[n] == 49)) (lvNext kind s (t[n] == 49)) (sOK_next hs _) (by rw [List.length_append]; omega) (by omega)
    rw [List.append_assoc] at h3
    rw [drop_data hl, lvGo]
    apply Ev.succ
    simp only [impl_levelsOf.l0]
    refine Ev.cond (fun _ => ?_) (fun h' => absurd c1 h')
    refine Ev.cond (fun _ => ?_) (fun h' => absurd c2 h')
    refine Ev.cond (fun _ => ?_) (fun h' => absurd c1 h')
    rw [hbt]
    refine Ev.bind (Ev.const (send_eq hs _)) ?_
    refine Ev.cond (fun _ => ?_) (fun h' => absurd (by show c.length + (lvOut kind s (t[n] == 49)).length < 17592186044416; omega) h')
    rw [w64_succ (show n < 9223372036854775807 by omega)]
    exact h3
theorem levelsOf_ev (kind : Int) (hk : kindB kind = true) (t : ByteArray) (ht : t.size ≤ 1048576) : Ev (fun k => impl_levelsOf.f k kind t) (levelsN kind t.data.toList) := by
  unfold impl_levelsOf.f
  have hk' := kinds_of hk
  have e : beforeN kind = wLevel kind (lvStart kind) ∧ (1 : Int) = wNext kind (lvStart kind) ∧ (-1 : Int) = wFrom kind (lvStart kind) := by
    rcases hk' with rfl | rfl | rfl | rfl | rfl | rfl <;> decide
  refine Ev.bind (Ev.const (newWire_eq kind)) ?_
  have h := levelsOf_l0 kind t ht t.size 0 [] (lvStart kind) (sOK_start hk') (by simp) (by omega)
  rw [← e.1, ← e.2.1, ← e.2.2] at h
  exact h

/-! IsBits -/
theorem trim_bits (s : ByteArray) (h : s.size ≤ 9223372036854775807) : strings_Trim.f s (⟨#[48, 49]⟩ : ByteArray) = some ⟨(Lib.trimS s.data.toList [48, 49]).toArray⟩ := by
  unfold strings_Trim.f
  rw [if_pos ⟨h, by decide, by decide⟩]
theorem areBits_eq (s : ByteArray) (h : s.size ≤ 9223372036854775807) : impl_areBits.f s = some (s.data.toList.all isBitB) := by
  unfold impl_areBits.f
  rw [trim_bits s h, Option.bind_some]
  congr 1
  have e1 : (⟨(Lib.trimS s.data.toList [48, 49]).toArray⟩ : ByteArray).toList = Lib.trimS s.data.toList [48, 49] := by rw [Lib.toList_data]
  rw [e1, Bool.eq_iff_iff, beq_iff_eq, trimS_nil]
  have e2 : (fun b => ([48, 49] : List UInt8).contains b) = isBitB := funext contains_bits
  rw [e2]
theorem IsBits_eq (s : ByteArray) (h : s.size ≤ 9223372036854775807) : impl_IsBits.f s = some (bitsB s) := by
  unfold impl_IsBits.f bitsB
  by_cases h4 : s.size ≤ 400
  · have h4' : (s.size : Int) ≤ 400 := by omega
    simp only [h4', if_true, areBits_eq s h, Option.bind_some, h4, decide_true, Bool.and_true]
  · have h4' : ¬ (s.size : Int) ≤ 400 := by omega
    simp only [h4', if_false, h4, decide_false, Bool.and_false]

/-! LevelsOfI -/
def LO_ans (kind : Int) (t : ByteArray) : List Int × Bool := if kindB kind = true ∧ bitsB t = true then (levelsN kind t.data.toList, true) else ([], false)
theorem LO_len (kind : Int) (t : ByteArray) : (LO_ans kind t).1.length ≤ 1048576 := by
  unfold LO_ans
  split
  · rename_i h
    have h2 := h.2
    unfold bitsB at h2
    rw [Bool.and_eq_true] at h2
    have h3 := of_decide_eq_true h2.2
    have hs : sOK kind (lvStart kind) := sOK_start (kinds_of h.1)
    unfold levelsN
    rw [lvGo_len _ hs, size_data]
    split <;> omega
  · exact Nat.zero_le _
theorem LO_impl (kind : Int) (t : ByteArray) (ht : t.size ≤ 1048576) : Ev (fun k => impl_LevelsOf.f k kind t) (LO_ans kind t) := by
  unfold impl_LevelsOf.f LO_ans
  refine Ev.bind (Ev.const (isLine_eq kind)) ?_
  by_cases h1 : kindB kind = true
  · refine Ev.cond (fun _ => ?_) (fun h' => absurd h1 h')
    refine Ev.bind (Ev.const (IsBits_eq t (by omega))) ?_
    by_cases h2 : bitsB t = true
    · refine Ev.cond (fun _ => ?_) (fun h' => absurd h2 h')
      rw [if_pos ⟨h1, h2⟩]
      exact Ev.bind (levelsOf_ev kind h1 t ht) (Ev.now _)
    · refine Ev.cond (fun h' => absurd h' h2) (fun _ => ?_)
      rw [if_neg (fun h => h2 h.2)]
      exact Ev.now _
  · refine Ev.cond (fun h' => absurd h' h1) (fun _ => ?_)
    rw [if_neg (fun h => h1 h.1)]
    exact Ev.now _

/-! areIn -/
theorem areIn_l0 (lo hi : Int) (xs : List Int) (hn : xs.length ≤ 1099511627776) : ∀ d n, n + d = xs.length → Ev (fun k => impl_areIn.l0 k lo hi xs (xs.length : Int) (n : Int)) (inAll lo hi (xs.drop n)) := by
  intro d
  induction d with
  | zero =>
    intro n h
    apply Ev.succ
    have h1 : ¬ ((n : Int) < (xs.length : Int)) := by omega
    have h2 : xs.drop n = [] := List.drop_eq_nil_of_le (by omega)
    simp only [impl_areIn.l0, h1, if_false, h2]
    exact Ev.now true
  | succ d ih =>
    intro n h
    apply Ev.succ
    have h1 : (n : Int) < (xs.length : Int) := by omega
    have h2 : (0 : Int) ≤ (n : Int) := by omega
    have h3 := ih (n + 1) (by omega)
    rw [drop_rd (show n < xs.length by omega), inAll_cons]
    simp only [impl_areIn.l0, h1, h2, if_true, within_eq, Option.bind_some, w64_succ (show n < 9223372036854775807 by omega)]
    by_cases hc : lo ≤ rd xs (n : Int) ∧ rd xs (n : Int) ≤ hi
    · simp only [hc, decide_true, if_true, Bool.true_and, and_self]; exact h3
    · simp only [hc, decide_false, Bool.false_and, Bool.false_eq_true, if_false]; exact Ev.now false
theorem areIn_ev (lo hi : Int) (xs : List Int) (hn : xs.length ≤ 1099511627776) : Ev (fun k => impl_areIn.f k xs lo hi) (inAll lo hi xs) := by
  have h := areIn_l0 lo hi xs hn xs.length 0 (by omega)
  exact h

/-! areLevels -/
theorem areLevels_ev (xs : List Int) (hn : xs.length ≤ 1099511627776) : Ev (fun k => impl_areLevels.f k xs) (levelsB xs) := by
  unfold impl_areLevels.f levelsB
  by_cases h : xs.length ≤ 800
  · have h1 : (xs.length : Int) ≤ 800 := by omega
    simp only [h1, if_true, h, decide_true, Bool.and_true]
    exact Ev.bind (areIn_ev (-1) 1 xs hn) (Ev.now _)
  · have h1 : ¬ (xs.length : Int) ≤ 800 := by omega
    simp only [h1, if_false, h, decide_false, Bool.and_false]
    exact Ev.now _

/-! l10Is -/

/-! canRead -/
def canB (kind : Int) (xs : List Int) : Bool := kindB kind && levelsB xs && (if kind = 2 ∨ kind = 3 then decide (xs.length % 2 = 0) else decide (xs.length ≤ 400))
theorem canRead_ev (kind : Int) (xs : List Int) (hn : xs.length ≤ 1099511627776) : Ev (fun k => impl_canRead.f k kind xs) (canB kind xs) := by
  unfold impl_canRead.f canB
  simp only [isLine_eq, Option.bind_some]
  by_cases h1 : kindB kind = true
  · simp only [h1, if_true, Bool.true_and]
    refine Ev.bind (areLevels_ev xs hn) ?_
    by_cases h2 : levelsB xs = true
    · have hl : xs.length ≤ 800 := by
        unfold levelsB at h2; rw [Bool.and_eq_true] at h2; exact of_decide_eq_true h2.2
      simp only [h2, if_true, Bool.true_and, perBit_eq, Option.bind_some]
      by_cases h3 : kind = 2 ∨ kind = 3
      · have hp : perN kind = 2 := by unfold perN; rw [if_pos h3]
        have hw : wrap64 ((xs.length : Int) / 2) = (xs.length : Int) / 2 := w64 (by omega) (by omega)
        have h5 : ((xs.length : Int) / 2 ≤ 400) = True := by simp only [eq_iff_iff, iff_true]; omega
        simp only [h3, if_true, hp, Int.reduceEq, if_false, hw, h5, decide_true]
        by_cases h4 : xs.length % 2 = 0
        · have h4' : (xs.length : Int) % 2 = 0 := by omega
          simp only [h4, h4', if_true, decide_true]; exact Ev.now _
        · have h4' : ¬ (xs.length : Int) % 2 = 0 := by omega
          simp only [h4, h4', if_false, decide_false]; exact Ev.now _
      · have hp : perN kind = 1 := by unfold perN; rw [if_neg h3]
        have hw : wrap64 ((xs.length : Int) / 1) = (xs.length : Int) := by rw [Int.ediv_one]; exact w64 (by omega) (by omega)
        have h4 : (xs.length : Int) % 1 = 0 := by omega
        have h5 : ((xs.length : Int) ≤ 400) = (xs.length ≤ 400) := propext ⟨fun h => by omega, fun h => by omega⟩
        simp only [h3, if_false, hp, Int.reduceEq, hw, h4, if_true, h5]; exact Ev.now _
    · simp only [h2, if_false, Bool.false_and]; exact Ev.now _
  · simp only [h1, Bool.false_eq_true, if_false, Bool.false_and]; exact Ev.now _
theorem canB_pair {kind : Int} {xs : List Int} (h : canB kind xs = true) : kindB kind = true ∧ levelsB xs = true ∧ (pairB kind = true → xs.length % 2 = 0) := by
  unfold canB at h
  rw [Bool.and_eq_true, Bool.and_eq_true] at h
  refine ⟨h.1.1, h.1.2, fun hp => ?_⟩
  have hp := of_decide_eq_true hp
  rw [if_pos hp] at h
  exact of_decide_eq_true h.2

/-! readDefs -/
/-- What levels are read as: kinds with one level a bit, kinds with two. -/
def readS (kind last : Int) : List Int → List Int
  | [] => []
  | x :: r => bitN (if kind = 0 then x == 1 else if kind = 4 then x != 0 else x != last) :: readS kind x r
def readP (kind last : Int) : List Int → List Int
  | x :: y :: r => bitN (if kind = 3 then x == last else decide (x < y)) :: readP kind y r
  | _ => []
def readN (kind : Int) (xs : List Int) : List Int := if kind = 2 ∨ kind = 3 then readP kind (beforeN kind) xs else readS kind (beforeN kind) xs
theorem drop_two {xs : List Int} {n : Nat} (h : n + 1 < xs.length) : xs.drop n = rd xs (n : Int) :: rd xs ((n + 1 : Nat) : Int) :: xs.drop (n + 2) := by
  rw [drop_rd (show n < xs.length by omega), drop_rd h]

/-! readLevelsI -/
theorem rl_tail {kind : Int} {Q : Nat} (hQ : perN kind = (Q : Int)) (hQ1 : 1 ≤ Q) (hQ2 : Q ≤ 2) {xs c : List Int} {n : Nat} {b : Bool} {r : ByteArray} (hlen : n + Q ≤ xs.length) (hx : xs.length ≤ 1099511627776) (hc : c.length ≤ n)
    (h : Ev (fun k => impl_readLevels.l0 k kind xs (c ++ [bitN b]) (rd xs ((n + Q - 1 : Nat) : Int)) ((n + Q : Nat) : Int)) r) :
    Ev (fun k => (impl_perBit.f kind).bind fun t => (if 0 ≤ (wrap64 ((wrap64 ((n : Int) + t)) - 1)) then (if (wrap64 ((wrap64 ((n : Int) + t)) - 1)) < (xs.length : Int) then ((impl_bitOf.f b).bind fun t' => (if c.length + t'.size < 140737488355328 then ((impl_perBit.f kind).bind fun t'' => (impl_readLevels.l0 k kind xs (c ++ bytesOf t') (rd xs (wrap64 ((wrap64 ((n : Int) + t)) - 1))) (wrap64 ((n : Int) + t'')))) else (none))) else (none)) else (none))) r := by
  refine Ev.bind (Ev.const (perBit_eq kind)) ?_
  have e1 : wrap64 ((n : Int) + (Q : Int)) = ((n + Q : Nat) : Int) := by rw [w64 (by omega) (by omega)]; omega
  have e2 : wrap64 (((n + Q : Nat) : Int) - 1) = ((n + Q - 1 : Nat) : Int) := by rw [w64 (by omega) (by omega)]; omega
  rw [hQ, e1, e2]
  refine Ev.cond (fun _ => ?_) (fun h' => absurd (by omega) h')
  refine Ev.cond (fun _ => ?_) (fun h' => absurd (by omega) h')
  refine Ev.bind (Ev.const (bitOf_eq b)) ?_
  refine Ev.cond (fun _ => ?_) (fun h' => absurd (by rw [bitStr_size]; omega) h')
  refine Ev.bind (Ev.const (perBit_eq kind)) ?_
  rw [hQ, e1, bytesOf_bitStr]
  exact h
theorem readLevels_SI (kind : Int) (hk : kind = 0 ∨ kind = 1 ∨ kind = 4 ∨ kind = 5) (xs : List Int) (hn : xs.length ≤ 1099511627776) : ∀ (d n : Nat) (c : List Int) (last : Int), c.length ≤ n → n + d = xs.length →
    Ev (fun k => impl_readLevels.l0 k kind xs c last (n : Int)) (strOfNums (c ++ readS kind last (xs.drop n))) := by
  have hp : perN kind = ((1 : Nat) : Int) := by unfold perN; rw [if_neg (by omega)]; rfl
  have hq : pairB kind = false := decide_eq_false (by omega)
  intro d
  induction d with
  | zero =>
    intro n c last hc h
    have h1 : ¬ ((n : Int) < (xs.length : Int)) := by omega
    have h2 : xs.drop n = [] := List.drop_eq_nil_of_le (by omega)
    rw [h2]
    simp only [readS, List.append_nil]
    refine Ev.succ ?_
    simp only [impl_readLevels.l0, h1, if_false]; exact Ev.now _
  | succ d ih =>
    intro n c last hc h
    have h1 : (n : Int) < (xs.length : Int) := by omega
    have h2 : (0 : Int) ≤ (n : Int) := by omega
    rw [drop_rd (show n < xs.length by omega)]
    simp only [readS]
    have key : ∀ b : Bool, b = (if kind = 0 then rd xs (n : Int) == 1 else if kind = 4 then rd xs (n : Int) != 0 else rd xs (n : Int) != last) →
        Ev (fun k => impl_readLevels.l0 k kind xs (c ++ [bitN b]) (rd xs ((n + 1 - 1 : Nat) : Int)) ((n + 1 : Nat) : Int)) (strOfNums (c ++ bitN (if kind = 0 then rd xs (n : Int) == 1 else if kind = 4 then rd xs (n : Int) != 0 else rd xs (n : Int) != last) :: readS kind (rd xs (n : Int)) (xs.drop (n + 1)))) := by
      intro b hb
      have h3 := ih (n + 1) (c ++ [bitN b]) (rd xs (n : Int)) (by simp; omega) (by omega)
      rw [List.append_assoc] at h3
      rw [← hb]
      exact h3
    rcases hk with rfl | rfl | rfl | rfl
    · have k2 := key (rd xs (n : Int) == 1) (by rw [if_pos rfl])
      refine Ev.succ ?_
      simp only [impl_readLevels.l0]
      refine Ev.cond (fun _ => ?_) (fun h' => absurd h1 h')
      refine Ev.cond (fun _ => ?_) (fun h' => absurd h2 h')
      refine Ev.cond (fun _ => ?_) (fun h' => absurd (by decide) h')
      exact rl_tail hp (by omega) (by omega) (by omega) hn hc k2
    · have k2 := key (rd xs (n : Int) != last) (by rw [if_neg (by decide), if_neg (by decide)])
      refine Ev.succ ?_
      simp only [impl_readLevels.l0]
      refine Ev.cond (fun _ => ?_) (fun h' => absurd h1 h')
      refine Ev.cond (fun _ => ?_) (fun h' => absurd h2 h')
      refine Ev.cond (fun h' => absurd h' (by decide)) (fun _ => ?_)
      refine Ev.cond (fun _ => Ev.succ ?_) (fun h' => absurd (by decide) h')
      simp only [impl_readLevels.j1]
      refine Ev.cond (fun _ => ?_) (fun h' => absurd (by decide) h')
      exact rl_tail hp (by omega) (by omega) (by omega) hn hc k2
    · have k2 := key (rd xs (n : Int) != 0) (by rw [if_neg (by decide), if_pos rfl])
      refine Ev.succ ?_
      simp only [impl_readLevels.l0]
      refine Ev.cond (fun _ => ?_) (fun h' => absurd h1 h')
      refine Ev.cond (fun _ => ?_) (fun h' => absurd h2 h')
      refine Ev.cond (fun h' => absurd h' (by decide)) (fun _ => ?_)
      refine Ev.cond (fun h' => absurd h' (by decide)) (fun _ => Ev.succ ?_)
      simp only [impl_readLevels.j1]
      refine Ev.cond (fun h' => absurd h' (by decide)) (fun _ => ?_)
      refine Ev.cond (fun h' => absurd h' (by decide)) (fun _ => ?_)
      refine Ev.cond (fun h' => absurd h' (by decide)) (fun _ => ?_)
      refine Ev.cond (fun _ => ?_) (fun h' => absurd (by decide) h')
      exact rl_tail hp (by omega) (by omega) (by omega) hn hc k2
    · have k2 := key (rd xs (n : Int) != last) (by rw [if_neg (by decide), if_neg (by decide)])
      refine Ev.succ ?_
      simp only [impl_readLevels.l0]
      refine Ev.cond (fun _ => ?_) (fun h' => absurd h1 h')
      refine Ev.cond (fun _ => ?_) (fun h' => absurd h2 h')
      refine Ev.cond (fun h' => absurd h' (by decide)) (fun _ => ?_)
      refine Ev.cond (fun h' => absurd h' (by decide)) (fun _ => Ev.succ ?_)
      simp only [impl_readLevels.j1]
      refine Ev.cond (fun _ => ?_) (fun h' => absurd (by decide) h')
      exact rl_tail hp (by omega) (by omega) (by omega) hn hc k2
theorem readLevels_PI (kind : Int) (hk : kind = 2 ∨ kind = 3) (xs : List Int) (hn : xs.length ≤ 1099511627776) : ∀ (d n : Nat) (c : List Int) (last : Int), c.length ≤ n → n + 2 * d = xs.length →
    Ev (fun k => impl_readLevels.l0 k kind xs c last (n : Int)) (strOfNums (c ++ readP kind last (xs.drop n))) := by
  have hp : perN kind = ((2 : Nat) : Int) := by unfold perN; rw [if_pos hk]; rfl
  have hq : pairB kind = true := decide_eq_true hk
  intro d
  induction d with
  | zero =>
    intro n c last hc h
    have h1 : ¬ ((n : Int) < (xs.length : Int)) := by omega
    have h2 : xs.drop n = [] := List.drop_eq_nil_of_le (by omega)
    rw [h2]
    simp only [readP, List.append_nil]
    refine Ev.succ ?_
    simp only [impl_readLevels.l0, h1, if_false]; exact Ev.now _
  | succ d ih =>
    intro n c last hc h
    have h1 : (n : Int) < (xs.length : Int) := by omega
    have h2 : (0 : Int) ≤ (n : Int) := by omega
    have h3 : ((n + 1 : Nat) : Int) < (xs.length : Int) := by omega
    have h4 : (0 : Int) ≤ ((n + 1 : Nat) : Int) := by omega
    have h4' : ¬ ((n + 1 : Nat) : Int) = (xs.length : Int) := by omega
    have hw := w64_succ (show n < 9223372036854775807 by omega)
    have hw4 := w64_succ (show n + 1 < 9223372036854775807 by omega)
    rw [drop_two (show n + 1 < xs.length by omega)]
    simp only [readP]
    have tl : ∀ b : Bool, b = (if kind = 3 then rd xs (n : Int) == last else decide (rd xs (n : Int) < rd xs ((n + 1 : Nat) : Int))) →
        Ev (fun k => impl_readLevels.l0 k kind xs (c ++ [bitN b]) (rd xs ((n + 2 - 1 : Nat) : Int)) ((n + 2 : Nat) : Int)) (strOfNums (c ++ bitN (if kind = 3 then rd xs (n : Int) == last else decide (rd xs (n : Int) < rd xs ((n + 1 : Nat) : Int))) :: readP kind (rd xs ((n + 1 : Nat) : Int)) (xs.drop (n + 2)))) := by
      intro b hb
      have h9 := ih (n + 2) (c ++ [bitN b]) (rd xs ((n + 1 : Nat) : Int)) (by simp; omega) (by omega)
      rw [List.append_assoc] at h9
      rw [← hb]
      exact h9
    rcases hk with rfl | rfl
    · have k2 := tl (decide (rd xs (n : Int) < rd xs ((n + 1 : Nat) : Int))) (by rw [if_neg (by decide)])
      refine Ev.succ ?_
      simp only [impl_readLevels.l0]
      refine Ev.cond (fun _ => ?_) (fun h' => absurd h1 h')
      refine Ev.cond (fun _ => ?_) (fun h' => absurd h2 h')
      refine Ev.cond (fun h' => absurd h' (by decide)) (fun _ => ?_)
      refine Ev.cond (fun h' => absurd h' (by decide)) (fun _ => Ev.succ ?_)
      simp only [impl_readLevels.j1]
      refine Ev.cond (fun h' => absurd h' (by decide)) (fun _ => ?_)
      refine Ev.cond (fun _ => ?_) (fun h' => absurd (by decide) h')
      rw [hw]
      refine Ev.cond (fun _ => ?_) (fun h' => absurd h4 h')
      refine Ev.cond (fun _ => ?_) (fun h' => absurd h3 h')
      exact rl_tail hp (by omega) (by omega) (by omega) hn hc k2
    · have k2 := tl (rd xs (n : Int) == last) (by rw [if_pos rfl])
      refine Ev.succ ?_
      simp only [impl_readLevels.l0]
      refine Ev.cond (fun _ => ?_) (fun h' => absurd h1 h')
      refine Ev.cond (fun _ => ?_) (fun h' => absurd h2 h')
      refine Ev.cond (fun h' => absurd h' (by decide)) (fun _ => ?_)
      refine Ev.cond (fun h' => absurd h' (by decide)) (fun _ => Ev.succ ?_)
      simp only [impl_readLevels.j1]
      refine Ev.cond (fun h' => absurd h' (by decide)) (fun _ => ?_)
      refine Ev.cond (fun h' => absurd h' (by decide)) (fun _ => ?_)
      refine Ev.cond (fun _ => ?_) (fun h' => absurd (by decide) h')
      exact rl_tail hp (by omega) (by omega) (by omega) hn hc k2
theorem readLevels_impl (kind : Int) (hk : kindB kind = true) (xs : List Int) (hn : xs.length ≤ 1099511627776) (hp : pairB kind = true → xs.length % 2 = 0) :
    Ev (fun k => impl_readLevels.f k kind xs) (strOfNums (readN kind xs)) := by
  unfold impl_readLevels.f readN
  have hk' := kinds_of hk
  have fin : Ev (fun k => impl_readLevels.l0 k kind xs [] (beforeN kind) 0) (strOfNums (if kind = 2 ∨ kind = 3 then readP kind (beforeN kind) xs else readS kind (beforeN kind) xs)) := by
    by_cases h : kind = 2 ∨ kind = 3
    · have h' := hp (decide_eq_true h)
      rw [if_pos h]
      exact readLevels_PI kind h xs hn (xs.length / 2) 0 [] (beforeN kind) (by simp) (by omega)
    · rw [if_neg h]
      exact readLevels_SI kind (by omega) xs hn xs.length 0 [] (beforeN kind) (by simp) (by omega)
  exact Ev.bind (Ev.const (newWire_eq kind)) fin

/-! RdLI -/
def RdI_ans (kind : Int) (xs : List Int) : ByteArray × Bool := if canB kind xs = true then (strOfNums (readN kind xs), true) else (⟨#[]⟩, false)
theorem RdI_impl (kind : Int) (xs : List Int) (hn : xs.length ≤ 1099511627776) : Ev (fun k => impl_ReadLevels.f k kind xs) (RdI_ans kind xs) := by
  unfold impl_ReadLevels.f RdI_ans
  refine Ev.bind (canRead_ev kind xs hn) ?_
  by_cases h : canB kind xs = true
  · obtain ⟨h1, h2, h3⟩ := canB_pair h
    refine Ev.cond (fun _ => ?_) (fun h' => absurd h h')
    rw [if_pos h]
    exact Ev.bind (readLevels_impl kind h1 xs hn h3) (Ev.now _)
  · refine Ev.cond (fun h' => absurd h' h) (fun _ => ?_)
    rw [if_neg h]
    exact Ev.now _

/-! strs -/
theorem str_size (l : List Int) : (strOfNums l).size = l.length := by
  show (strOfNums l).data.size = _
  simp [strOfNums]
theorem bt_str {xs : List Int} {k : Nat} (hk : k < xs.length) (h : 0 ≤ xs[k] ∧ xs[k] ≤ 255) : bt (strOfNums xs) (k : Int) = xs[k] := by
  have hk' : k < (strOfNums xs).size := by rw [str_size]; exact hk
  rw [bt_nat _ _ hk']
  have e : (strOfNums xs)[k]'hk' = UInt8.ofNat (xs[k]).toNat := by
    show (strOfNums xs).data[k]'_ = _
    simp [strOfNums]
  rw [e, UInt8.toNat_ofNat']
  omega
theorem all_bits_iff (s : ByteArray) : s.data.toList.all isBitB = true ↔ ∀ k : Nat, k < s.size → (bt s (k : Int) = 48 ∨ bt s (k : Int) = 49) := by
  rw [List.all_eq_true]
  constructor
  · intro h k hk
    rw [bt_nat s k hk]
    refine (isBit_iff _).1 (h _ ?_)
    rw [← data_get hk]; exact List.getElem_mem _
  · intro h b hb
    obtain ⟨k, hk, rfl⟩ := List.mem_iff_getElem.1 hb
    have hk' : k < s.size := by rw [← size_data]; exact hk
    rw [isBit_iff, data_get hk', ← bt_nat s k hk']
    exact h k hk'
theorem str_ext {s t : ByteArray} (h : s.size = t.size) (h2 : ∀ k : Nat, k < s.size → bt s (k : Int) = bt t (k : Int)) : s = t := by
  apply ByteArray.ext
  apply Array.ext
  · exact h
  · intro k h3 h4
    have e := h2 k h3
    rw [bt_nat s k h3, bt_nat t k h4] at e
    exact UInt8.toNat_inj.1 (by exact_mod_cast e)

/-! readBack -/
/-- The texts of bits. -/
def txtL (l : List UInt8) : List Int := l.map fun c => bitN (c == 49)
theorem RB_r0 (l : List UInt8) : ∀ (last s : Int), readS 0 last (lvGo 0 s l) = txtL l := by
  induction l with
  | nil => intro last s; rfl
  | cons c l ih =>
    intro last s
    have e : lvGo 0 s (c :: l) = (if (c == 49) = true then 1 else -1) :: lvGo 0 (lvNext 0 s (c == 49)) l := by
      rw [lvGo]
      generalize (c == 49) = b
      cases b <;> simp [lvOut]
    rw [e, readS, ih]
    unfold txtL
    rw [List.map_cons]
    congr 1
    generalize (c == 49) = b
    cases b <;> simp
theorem RB_r2 (l : List UInt8) : ∀ (last s : Int), readP 2 last (lvGo 2 s l) = txtL l := by
  induction l with
  | nil => intro last s; rfl
  | cons c l ih =>
    intro last s
    have e : lvGo 2 s (c :: l) = (if (c == 49) = true then -1 else 1) :: (if (c == 49) = true then 1 else -1) :: lvGo 2 (lvNext 2 s (c == 49)) l := by
      rw [lvGo]
      generalize (c == 49) = b
      cases b <;> simp [lvOut]
    rw [e, readP, ih]
    unfold txtL
    rw [List.map_cons]
    congr 1
    generalize (c == 49) = b
    cases b <;> simp
theorem RB_r4 (l : List UInt8) : ∀ (last s : Int), (s = 1 ∨ s = -1) → readS 4 last (lvGo 4 s l) = txtL l := by
  induction l with
  | nil => intro last s _; rfl
  | cons c l ih =>
    intro last s hs
    have hn : lvNext 4 s (c == 49) = 1 ∨ lvNext 4 s (c == 49) = -1 := by
      rcases hs with rfl | rfl <;> generalize (c == 49) = b <;> cases b <;> simp [lvNext]
    have e : lvGo 4 s (c :: l) = (if (c == 49) = true then s else 0) :: lvGo 4 (lvNext 4 s (c == 49)) l := by
      rw [lvGo]
      generalize (c == 49) = b
      rcases hs with rfl | rfl <;> cases b <;> simp [lvOut]
    rw [e, readS, ih _ _ hn]
    unfold txtL
    rw [List.map_cons]
    congr 1
    generalize (c == 49) = b
    rcases hs with rfl | rfl <;> cases b <;> simp
theorem RB_r1 (l : List UInt8) : ∀ (s : Int), (s = 1 ∨ s = -1) → readS 1 s (lvGo 1 s l) = txtL l := by
  induction l with
  | nil => intro s _; rfl
  | cons c l ih =>
    intro s hs
    have hn : lvNext 1 s (c == 49) = 1 ∨ lvNext 1 s (c == 49) = -1 := by
      rcases hs with rfl | rfl <;> generalize (c == 49) = b <;> cases b <;> simp [lvNext]
    have e : lvGo 1 s (c :: l) = lvNext 1 s (c == 49) :: lvGo 1 (lvNext 1 s (c == 49)) l := by
      rw [lvGo]
      generalize (c == 49) = b
      rcases hs with rfl | rfl <;> cases b <;> simp [lvOut, lvNext]
    rw [e, readS, ih _ hn]
    unfold txtL
    rw [List.map_cons]
    congr 1
    generalize (c == 49) = b
    rcases hs with rfl | rfl <;> cases b <;> simp [lvNext]
theorem RB_r3 (l : List UInt8) : ∀ (s : Int), (s = 1 ∨ s = -1) → readP 3 s (lvGo 3 s l) = txtL l := by
  induction l with
  | nil => intro s _; rfl
  | cons c l ih =>
    intro s hs
    have hn : lvNext 3 s (c == 49) = 1 ∨ lvNext 3 s (c == 49) = -1 := by
      rcases hs with rfl | rfl <;> generalize (c == 49) = b <;> cases b <;> simp [lvNext]
    have e : lvGo 3 s (c :: l) = (if (c == 49) = true then s else -s) :: lvNext 3 s (c == 49) :: lvGo 3 (lvNext 3 s (c == 49)) l := by
      rw [lvGo]
      generalize (c == 49) = b
      rcases hs with rfl | rfl <;> cases b <;> simp [lvOut, lvNext]
    rw [e, readP, ih _ hn]
    unfold txtL
    rw [List.map_cons]
    congr 1
    generalize (c == 49) = b
    rcases hs with rfl | rfl <;> cases b <;> simp
theorem RB_r5 (l : List UInt8) : ∀ (s : Int), (s = 0 ∨ s = 1 ∨ s = 2 ∨ s = 3) → readS 5 (circ s) (lvGo 5 s l) = txtL l := by
  induction l with
  | nil => intro s _; rfl
  | cons c l ih =>
    intro s hs
    have hn : lvNext 5 s (c == 49) = 0 ∨ lvNext 5 s (c == 49) = 1 ∨ lvNext 5 s (c == 49) = 2 ∨ lvNext 5 s (c == 49) = 3 := by
      rcases hs with rfl | rfl | rfl | rfl <;> generalize (c == 49) = b <;> cases b <;> simp [lvNext]
    have e : lvGo 5 s (c :: l) = circ (lvNext 5 s (c == 49)) :: lvGo 5 (lvNext 5 s (c == 49)) l := by
      rw [lvGo]
      generalize (c == 49) = b
      rcases hs with rfl | rfl | rfl | rfl <;> cases b <;> simp [lvOut, lvNext, circ]
    rw [e, readS, ih _ hn]
    unfold txtL
    rw [List.map_cons]
    congr 1
    generalize (c == 49) = b
    rcases hs with rfl | rfl | rfl | rfl <;> cases b <;> simp [circ, lvNext]
theorem RB_read (kind : Int) (hk : kindB kind = true) (l : List UInt8) : readN kind (levelsN kind l) = txtL l := by
  rcases kinds_of hk with rfl | rfl | rfl | rfl | rfl | rfl
  · exact RB_r0 l _ _
  · exact RB_r1 l (-1) (.inr rfl)
  · exact RB_r2 l _ _
  · exact RB_r3 l (-1) (.inr rfl)
  · exact RB_r4 l _ _ (.inl rfl)
  · exact RB_r5 l 0 (.inl rfl)
theorem RB_str (t : ByteArray) (hb : t.data.toList.all isBitB = true) : strOfNums (txtL t.data.toList) = t := by
  have hlen : (txtL t.data.toList).length = t.size := by unfold txtL; rw [List.length_map, size_data]
  apply str_ext
  · rw [str_size, hlen]
  · intro k hk
    rw [str_size, hlen] at hk
    have hbit : isBitB (t[k]) = true := by
      rw [List.all_eq_true] at hb
      exact hb _ (by rw [← data_get hk]; exact List.getElem_mem _)
    have hv : bitN (t[k] == 49) = (t[k].toNat : Int) := by
      rcases (isBit_iff _).1 hbit with e | e
      · have e2 : t[k] = 48 := UInt8.toNat_inj.1 (by show (t[k]).toNat = 48; omega)
        rw [e2]; decide
      · have e2 : t[k] = 49 := UInt8.toNat_inj.1 (by show (t[k]).toNat = 49; omega)
        rw [e2]; decide
    have ev : (txtL t.data.toList)[k]'(by rw [hlen]; exact hk) = (t[k].toNat : Int) := by
      simp only [txtL, List.getElem_map, data_get hk]
      exact hv
    rw [bt_str (by rw [hlen]; exact hk) (by rw [ev]; have := (t[k]).toNat_lt; omega), ev, bt_nat t k hk]

/-! slicesEqual -/
theorem slicesEqual_l0 (xs ys : List Int) (hl : xs.length = ys.length) (hn : xs.length ≤ 1099511627776) : ∀ d n, n + d = xs.length → Ev (fun k => slices_Equal_int64_int64.l0 k xs ys (xs.length : Int) (n : Int)) (decide (xs.drop n = ys.drop n)) := by
  intro d
  induction d with
  | zero =>
    intro n h
    apply Ev.succ
    have h1 : ¬ ((n : Int) < (xs.length : Int)) := by omega
    have h2 : xs.drop n = [] := List.drop_eq_nil_of_le (by omega)
    have h3 : ys.drop n = [] := List.drop_eq_nil_of_le (by omega)
    simp only [slices_Equal_int64_int64.l0, h1, if_false, h2, h3, decide_true]
    exact Ev.now true
  | succ d ih =>
    intro n h
    apply Ev.succ
    have h1 : (n : Int) < (xs.length : Int) := by omega
    have h1' : (n : Int) < (ys.length : Int) := by omega
    have h2 : (0 : Int) ≤ (n : Int) := by omega
    have h3 := ih (n + 1) (by omega)
    rw [drop_rd (show n < xs.length by omega), drop_rd (show n < ys.length by omega)]
    simp only [slices_Equal_int64_int64.l0, h1, h1', h2, if_true, w64_succ (show n < 9223372036854775807 by omega), List.cons.injEq]
    by_cases hc : rd xs (n : Int) = rd ys (n : Int)
    · simp only [hc, if_true, true_and]; exact h3
    · simp only [hc, if_false, false_and, decide_false]; exact Ev.now false
theorem slicesEqual_ev (xs ys : List Int) (hn : xs.length ≤ 1099511627776) : Ev (fun k => slices_Equal_int64_int64.f k xs ys) (decide (xs = ys)) := by
  unfold slices_Equal_int64_int64.f
  by_cases hl : xs.length = ys.length
  · have h1 : (xs.length : Int) = (ys.length : Int) := by omega
    simp only [h1, if_true]
    have h := slicesEqual_l0 xs ys hl hn xs.length 0 (by omega)
    rw [h1] at h
    exact h
  · have h1 : ¬ (xs.length : Int) = (ys.length : Int) := by omega
    have h2 : ¬ xs = ys := fun h => hl (by rw [h])
    simp only [h1, if_false, h2, decide_false]
    exact Ev.now false

/-! matching -/
/-- How many numbers two lists have in common at the beginning. -/
def matN : List Int → List Int → Nat
  | a :: r, b :: q => if a = b then matN r q + 1 else 0
  | _, _ => 0
theorem matN_nil (l : List Int) : matN l [] = 0 := by cases l <;> rfl
theorem matN_same (l : List Int) : matN l l = l.length := by
  induction l with
  | nil => rfl
  | cons a l ih => simp [matN, ih]
theorem matN_le : ∀ (l q : List Int), matN l q ≤ l.length ∧ matN l q ≤ q.length := by
  intro l
  induction l with
  | nil => intro q; cases q <;> simp [matN]
  | cons a l ih =>
    intro q
    cases q with
    | nil => simp [matN]
    | cons b q =>
      have := ih q
      simp only [matN, List.length_cons]
      split <;> omega
theorem matN_full : ∀ (l q : List Int), l.length = q.length → matN l q = q.length → l = q := by
  intro l
  induction l with
  | nil => intro q h _; cases q with
    | nil => rfl
    | cons b q => simp at h
  | cons a l ih =>
    intro q h h2
    cases q with
    | nil => simp at h
    | cons b q =>
      simp only [List.length_cons] at h h2
      simp only [matN] at h2
      by_cases e : a = b
      · rw [if_pos e] at h2
        rw [e, ih q (by omega) (by omega)]
      · rw [if_neg e] at h2; omega
theorem matching_l0 (a b : List Int) (ha : a.length ≤ 1000) : ∀ (d n : Nat), n + d = a.length → Ev (fun k => impl_matching.l0 k a b (n : Int)) ((n + matN (a.drop n) (b.drop n) : Nat) : Int) := by
  intro d
  induction d with
  | zero =>
    intro n h
    have c1 : ¬ (n : Int) < (a.length : Int) := by omega
    have e : a.drop n = [] := List.drop_eq_nil_of_le (by omega)
    rw [e]
    apply Ev.succ
    simp only [impl_matching.l0]
    exact Ev.cond (fun h' => absurd h' c1) (fun _ => Ev.now _)
  | succ d ih =>
    intro n h
    have c1 : (n : Int) < (a.length : Int) := by omega
    have c2 : (0 : Int) ≤ (n : Int) := by omega
    have hw := w64_succ (show n < 9223372036854775807 by omega)
    by_cases hb : n < b.length
    · have c3 : (n : Int) < (b.length : Int) := by omega
      rw [drop_rd (show n < a.length by omega), drop_rd hb]
      simp only [matN]
      apply Ev.succ
      simp only [impl_matching.l0, hw]
      refine Ev.cond (fun _ => ?_) (fun h' => absurd c1 h')
      refine Ev.cond (fun _ => ?_) (fun h' => absurd c3 h')
      refine Ev.cond (fun _ => ?_) (fun h' => absurd c2 h')
      by_cases e : rd a (n : Int) = rd b (n : Int)
      · rw [if_pos e]
        refine Ev.cond (fun _ => ?_) (fun h' => absurd e h')
        have h3 := ih (n + 1) (by omega)
        have e2 : n + (matN (a.drop (n + 1)) (b.drop (n + 1)) + 1) = n + 1 + matN (a.drop (n + 1)) (b.drop (n + 1)) := by omega
        rw [e2]
        exact h3
      · rw [if_neg e]
        refine Ev.cond (fun h' => absurd h' e) (fun _ => ?_)
        exact Ev.now _
    · have c3 : ¬ (n : Int) < (b.length : Int) := by omega
      have e : b.drop n = [] := List.drop_eq_nil_of_le (by omega)
      rw [e, matN_nil]
      apply Ev.succ
      simp only [impl_matching.l0]
      refine Ev.cond (fun _ => ?_) (fun h' => absurd c1 h')
      exact Ev.cond (fun h' => absurd h' c3) (fun _ => Ev.now _)
theorem matching_ev (a b : List Int) (ha : a.length ≤ 1000) : Ev (fun k => impl_matching.f k a b) ((matN a b : Nat) : Int) := by
  have h := matching_l0 a b ha a.length 0 (by omega)
  rw [Nat.zero_add] at h
  exact h

/-! mxmn -/
theorem mx_eq (a b : Int) : mx a b = max a b := by unfold mx; split <;> omega
theorem mn_eq (a b : Int) : mn a b = min a b := by unfold mn; split <;> omega

/-! FirstWrongNone -/
theorem lvOut_ne {kind s : Int} (h : sOK kind s) : lvOut kind s false ≠ lvOut kind s true := by
  rcases h with ⟨rfl, rfl⟩ | ⟨rfl, rfl | rfl⟩ | ⟨rfl, rfl⟩ | ⟨rfl, rfl | rfl⟩ | ⟨rfl, rfl | rfl⟩ | ⟨rfl, rfl | rfl | rfl | rfl⟩ <;> decide
theorem FWn_l0 (kind : Int) (hk : kindB kind = true) (Q : Nat) (hQ : perN kind = (Q : Int)) (hQ2 : (if kind = 2 ∨ kind = 3 then 2 else 1) = Q) (xs : List Int) (hx : xs.length ≤ 1000) :
    ∀ (l : List UInt8) (n : Nat) (s : Int), sOK kind s → xs.drop n = lvGo kind s l → n ≤ xs.length →
    Ev (fun k => impl_FirstWrong.l0 k kind xs (n : Int) kind (wLevel kind s) (wNext kind s) (wFrom kind s)) (0, false) := by
  have hQ12 : Q = 1 ∨ Q = 2 := by rw [← hQ2]; split <;> simp
  intro l
  induction l with
  | nil =>
    intro n s hs hd hn
    have hl : (xs.drop n).length = 0 := by rw [hd]; rfl
    rw [List.length_drop] at hl
    have c1 : ¬ (n : Int) < (xs.length : Int) := by omega
    apply Ev.succ
    simp only [impl_FirstWrong.l0]
    exact Ev.cond (fun h' => absurd h' c1) (fun _ => Ev.now _)
  | cons c l ih =>
    intro n s hs hd hn
    rw [lvGo] at hd
    have hlen : ∀ b, (lvOut kind s b).length = Q := fun b => by rw [lvOut_len hs b]; exact hQ2
    have hl : (xs.drop n).length = Q + (lvGo kind (lvNext kind s (c == 49)) l).length := by rw [hd, List.length_append, hlen]
    rw [List.length_drop] at hl
    have hnQ : n + Q ≤ xs.length := by omega
    have c1 : (n : Int) < (xs.length : Int) := by omega
    have c2 : (0 : Int) ≤ (n : Int) := by omega
    have hw : wrap64 ((n : Int) + (Q : Int)) = ((n + Q : Nat) : Int) := w64_add _ _ (by omega)
    have hmn : mn ((n + Q : Nat) : Int) (xs.length : Int) = ((n + Q : Nat) : Int) := by rw [mn_eq]; omega
    have c3 : (n : Int) ≤ ((n + Q : Nat) : Int) := by omega
    have c4 : ((n + Q : Nat) : Int) ≤ (xs.length : Int) := by omega
    have hseg : (xs.take (n + Q)).drop n = lvOut kind s (c == 49) := by
      rw [List.drop_take, hd, Nat.add_sub_cancel_left, List.take_append_of_le_length (by rw [hlen]; exact Nat.le_refl _), List.take_of_length_le (by rw [hlen]; exact Nat.le_refl _)]
    have hdn : xs.drop (n + Q) = lvGo kind (lvNext kind s (c == 49)) l := by
      rw [← List.drop_drop, hd, List.drop_append_of_le_length (by rw [hlen]; exact Nat.le_refl _), List.drop_of_length_le (by rw [hlen]; exact Nat.le_refl _), List.nil_append]
    have hne := lvOut_ne hs
    have h3 := ih (n + Q) _ (sOK_next hs (c == 49)) hdn hnQ
    have m1 := matching_ev (lvOut kind s false) (lvOut kind s (c == 49)) (by rw [hlen]; omega)
    have m2 := matching_ev (lvOut kind s true) (lvOut kind s (c == 49)) (by rw [hlen]; omega)
    apply Ev.succ
    simp only [impl_FirstWrong.l0]
    refine Ev.cond (fun _ => ?_) (fun h' => absurd c1 h')
    refine Ev.bind (Ev.const (perBit_eq kind)) ?_
    rw [hQ, hw, hmn]
    refine Ev.cond (fun _ => ?_) (fun h' => absurd c2 h')
    refine Ev.cond (fun _ => ?_) (fun h' => absurd c3 h')
    refine Ev.cond (fun _ => ?_) (fun h' => absurd c4 h')
    refine Ev.bind (Ev.const (send_eq hs false)) ?_
    refine Ev.bind (Ev.const (send_eq hs true)) ?_
    rw [Int.toNat_natCast, Int.toNat_natCast, hseg]
    refine Ev.bind m1 (Ev.bind m2 ?_)
    rw [hlen, mx_eq]
    have p1 := (matN_le (lvOut kind s false) (lvOut kind s (c == 49))).1
    have p2 := (matN_le (lvOut kind s true) (lvOut kind s (c == 49))).1
    rw [hlen] at p1 p2
    by_cases hc : (c == 49) = true
    · rw [hc] at h3 p1 p2 ⊢
      have f2 : matN (lvOut kind s true) (lvOut kind s true) = Q := by rw [matN_same, hlen]
      have f1 : matN (lvOut kind s false) (lvOut kind s true) ≠ Q := fun e => hne (matN_full _ _ (by rw [hlen, hlen]) (by rw [e, hlen]))
      refine Ev.cond (fun h' => absurd h' (by omega)) (fun _ => ?_)
      refine Ev.cond (fun _ => ?_) (fun h' => absurd h' (fun g => g (by omega)))
      refine Ev.bind (Ev.const (perBit_eq kind)) ?_
      rw [hQ, hw]
      exact h3
    · have hc := eq_false_of_ne_true hc
      rw [hc] at h3 p1 p2 ⊢
      have f1 : matN (lvOut kind s false) (lvOut kind s false) = Q := by rw [matN_same, hlen]
      refine Ev.cond (fun h' => absurd h' (by omega)) (fun _ => ?_)
      refine Ev.cond (fun h' => absurd h' (by omega)) (fun _ => ?_)
      refine Ev.bind (Ev.const (perBit_eq kind)) ?_
      rw [hQ, hw]
      exact h3

/-! SumsI -/
def sumsR (s lo hi : Int) : List Int → Int × Int
  | [] => (lo, hi)
  | x :: r => sumsR (s + x) (min lo (s + x)) (max hi (s + x)) r
/-- Whether all sums of the first numbers lie within bounds. -/
def sumsIn (a b s : Int) : List Int → Prop
  | [] => True
  | x :: r => a ≤ s + x ∧ s + x ≤ b ∧ sumsIn a b (s + x) r
theorem sumsR_mono : ∀ (l : List Int) (s lo hi : Int), (sumsR s lo hi l).1 ≤ lo ∧ hi ≤ (sumsR s lo hi l).2 := by
  intro l
  induction l with
  | nil => intro s lo hi; exact ⟨Int.le_refl _, Int.le_refl _⟩
  | cons x r ih =>
    intro s lo hi
    have := ih (s + x) (min lo (s + x)) (max hi (s + x))
    simp only [sumsR]
    omega
theorem sumsR_in {a b : Int} : ∀ (l : List Int) (s lo hi : Int), sumsIn a b s l → a ≤ lo → hi ≤ b → a ≤ (sumsR s lo hi l).1 ∧ (sumsR s lo hi l).2 ≤ b := by
  intro l
  induction l with
  | nil => intro s lo hi _ h1 h2; exact ⟨h1, h2⟩
  | cons x r ih =>
    intro s lo hi h h1 h2
    obtain ⟨g1, g2, g3⟩ := h
    exact ih (s + x) (min lo (s + x)) (max hi (s + x)) g3 (by omega) (by omega)
theorem SOi_l0 (xs : List Int) (hn : xs.length ≤ 800) (hb : ∀ x ∈ xs, -1 ≤ x ∧ x ≤ 1) : ∀ (d n : Nat) (s lo hi : Int), n + d = xs.length → -n ≤ s → s ≤ n →
    Ev (fun k => impl_SumsOf.l0 k s lo hi xs (xs.length : Int) (n : Int)) ((sumsR s lo hi (xs.drop n)).1, (sumsR s lo hi (xs.drop n)).2, true) := by
  intro d
  induction d with
  | zero =>
    intro n s lo hi h s1 s2
    have c1 : ¬ ((n : Int) < (xs.length : Int)) := by omega
    have c2 : xs.drop n = [] := List.drop_eq_nil_of_le (by omega)
    rw [c2]
    apply Ev.succ
    simp only [impl_SumsOf.l0]
    exact Ev.cond (fun h' => absurd h' c1) (fun _ => Ev.now _)
  | succ d ih =>
    intro n s lo hi h s1 s2
    have c1 : (n : Int) < (xs.length : Int) := by omega
    have c2 : (0 : Int) ≤ (n : Int) := by omega
    have hm := hb _ (rd_mem (show n < xs.length by omega))
    have hw : wrap64 (s + rd xs (n : Int)) = s + rd xs (n : Int) := w64 (by omega) (by omega)
    rw [drop_rd (show n < xs.length by omega)]
    have h3 := ih (n + 1) (s + rd xs (n : Int)) (min lo (s + rd xs (n : Int))) (max hi (s + rd xs (n : Int))) (by omega) (by omega) (by omega)
    apply Ev.succ
    simp only [impl_SumsOf.l0, hw, mx_eq, mn_eq, w64_succ (show n < 9223372036854775807 by omega)]
    refine Ev.cond (fun _ => ?_) (fun h' => absurd c1 h')
    refine Ev.cond (fun _ => ?_) (fun h' => absurd c2 h')
    refine Ev.cond (fun _ => ?_) (fun h' => absurd c1 h')
    exact h3
theorem SOi_ev (xs : List Int) (hb : levelsB xs = true) : Ev (fun k => impl_SumsOf.f k xs) ((sumsR 0 0 0 xs).1, (sumsR 0 0 0 xs).2, true) := by
  have h2 := hb
  unfold levelsB at h2
  rw [Bool.and_eq_true] at h2
  have hn := of_decide_eq_true h2.2
  unfold impl_SumsOf.f
  refine Ev.bind (areLevels_ev xs (by omega)) ?_
  refine Ev.cond (fun _ => ?_) (fun h' => absurd hb h')
  exact SOi_l0 xs hn (inAll_mem h2.1) xs.length 0 0 0 0 (by omega) (by omega) (by omega)

/-! TextI -/
/-- The text of levels. -/
def lvT (xs : List Int) : List Int := xs.map fun x => bt (⟨#[45, 48, 43]⟩ : ByteArray) (x + 1)
theorem LTi_l0 (xs : List Int) (hn : xs.length ≤ 800) (hb : ∀ x ∈ xs, -1 ≤ x ∧ x ≤ 1) : ∀ (d n : Nat), n + d = xs.length →
    Ev (fun k => impl_LevelsText.l0 k (lvT (xs.take n)) xs (xs.length : Int) (n : Int)) (strOfNums (lvT xs), true) := by
  intro d
  induction d with
  | zero =>
    intro n h
    have c1 : ¬ ((n : Int) < (xs.length : Int)) := by omega
    have c2 : xs.take n = xs := List.take_of_length_le (by omega)
    rw [c2]
    apply Ev.succ
    simp only [impl_LevelsText.l0]
    exact Ev.cond (fun h' => absurd h' c1) (fun _ => Ev.now _)
  | succ d ih =>
    intro n h
    have c1 : (n : Int) < (xs.length : Int) := by omega
    have c2 : (0 : Int) ≤ (n : Int) := by omega
    have hm := hb _ (rd_mem (show n < xs.length by omega))
    have hw : wrap64 (rd xs (n : Int) + 1) = rd xs (n : Int) + 1 := w64 (by omega) (by omega)
    have c3 : 0 ≤ rd xs (n : Int) + 1 := by omega
    have c4 : rd xs (n : Int) + 1 < 3 := by omega
    have c5 : (lvT (xs.take n)).length < 140737488355328 := by unfold lvT; rw [List.length_map, List.length_take]; omega
    have h3 := ih (n + 1) (by omega)
    have e : lvT (xs.take (n + 1)) = lvT (xs.take n) ++ [bt (⟨#[45, 48, 43]⟩ : ByteArray) (rd xs (n : Int) + 1)] := by
      unfold lvT
      rw [take_rd (show n < xs.length by omega), List.map_append]; rfl
    rw [e] at h3
    apply Ev.succ
    simp only [impl_LevelsText.l0, hw, w64_succ (show n < 9223372036854775807 by omega)]
    refine Ev.cond (fun _ => ?_) (fun h' => absurd c1 h')
    refine Ev.cond (fun _ => ?_) (fun h' => absurd c2 h')
    refine Ev.cond (fun _ => ?_) (fun h' => absurd c1 h')
    refine Ev.cond (fun _ => ?_) (fun h' => absurd c3 h')
    refine Ev.cond (fun _ => ?_) (fun h' => absurd c4 h')
    refine Ev.cond (fun _ => ?_) (fun h' => absurd c5 h')
    exact h3
theorem LTi_ev (xs : List Int) (hb : levelsB xs = true) : Ev (fun k => impl_LevelsText.f k xs) (strOfNums (lvT xs), true) := by
  have h2 := hb
  unfold levelsB at h2
  rw [Bool.and_eq_true] at h2
  have hn := of_decide_eq_true h2.2
  unfold impl_LevelsText.f
  refine Ev.bind (areLevels_ev xs (by omega)) ?_
  refine Ev.cond (fun _ => ?_) (fun h' => absurd hb h')
  exact LTi_l0 xs hn (inAll_mem h2.1) xs.length 0 (by omega)
theorem lv_byte {x : Int} (h : -1 ≤ x ∧ x ≤ 1) : (x = -1 ∧ bt (⟨#[45, 48, 43]⟩ : ByteArray) (x + 1) = 45) ∨ (x = 0 ∧ bt (⟨#[45, 48, 43]⟩ : ByteArray) (x + 1) = 48) ∨ (x = 1 ∧ bt (⟨#[45, 48, 43]⟩ : ByteArray) (x + 1) = 43) := by
  have : x = -1 ∨ x = 0 ∨ x = 1 := by omega
  rcases this with rfl | rfl | rfl
  · exact .inl ⟨rfl, by decide⟩
  · exact .inr (.inl ⟨rfl, by decide⟩)
  · exact .inr (.inr ⟨rfl, by decide⟩)
theorem RTi_l0 (xs : List Int) (hB : levelsB xs = true) (hn : xs.length ≤ 800) (hb : ∀ x ∈ xs, -1 ≤ x ∧ x ≤ 1) (s : ByteArray) (hs : s.size = xs.length)
    (hv : ∀ n : Nat, n < xs.length → bt s (n : Int) = bt (⟨#[45, 48, 43]⟩ : ByteArray) (rd xs (n : Int) + 1)) : ∀ (d n : Nat), n + d = xs.length →
    Ev (fun k => impl_ReadLevelsText.l0 k s (xs.take n) (s.size : Int) (n : Int)) (xs, true) := by
  intro d
  induction d with
  | zero =>
    intro n h
    have c1 : ¬ ((n : Int) < (s.size : Int)) := by omega
    have c2 : xs.take n = xs := List.take_of_length_le (by omega)
    rw [c2]
    apply Ev.succ
    simp only [impl_ReadLevelsText.l0]
    refine Ev.cond (fun h' => absurd h' c1) (fun _ => ?_)
    refine Ev.bind (areLevels_ev xs (by omega)) ?_
    exact Ev.cond (fun _ => Ev.now _) (fun h' => absurd hB h')
  | succ d ih =>
    intro n h
    have c1 : (n : Int) < (s.size : Int) := by omega
    have c2 : (0 : Int) ≤ (n : Int) := by omega
    have c5 : (xs.take n).length < 17592186044416 := by rw [List.length_take]; omega
    have hm := hb _ (rd_mem (show n < xs.length by omega))
    have h3 := ih (n + 1) (by omega)
    rw [take_rd (show n < xs.length by omega)] at h3
    have hbt := hv n (by omega)
    apply Ev.succ
    simp only [impl_ReadLevelsText.l0, w64_succ (show n < 9223372036854775807 by omega)]
    refine Ev.cond (fun _ => ?_) (fun h' => absurd c1 h')
    refine Ev.cond (fun _ => ?_) (fun h' => absurd c2 h')
    refine Ev.cond (fun _ => ?_) (fun h' => absurd c1 h')
    rcases lv_byte hm with ⟨e1, e2⟩ | ⟨e1, e2⟩ | ⟨e1, e2⟩
    · rw [e2] at hbt
      rw [e1] at h3
      refine Ev.cond (fun _ => ?_) (fun h' => absurd hbt h')
      exact Ev.cond (fun _ => h3) (fun h' => absurd c5 h')
    · rw [e2] at hbt
      rw [e1] at h3
      refine Ev.cond (fun h' => absurd h' (by omega)) (fun _ => ?_)
      refine Ev.cond (fun _ => ?_) (fun h' => absurd hbt h')
      exact Ev.cond (fun _ => h3) (fun h' => absurd c5 h')
    · rw [e2] at hbt
      rw [e1] at h3
      refine Ev.cond (fun h' => absurd h' (by omega)) (fun _ => ?_)
      refine Ev.cond (fun h' => absurd h' (by omega)) (fun _ => ?_)
      refine Ev.cond (fun _ => ?_) (fun h' => absurd hbt h')
      exact Ev.cond (fun _ => h3) (fun h' => absurd c5 h')
theorem RTi_ev (xs : List Int) (hB : levelsB xs = true) : Ev (fun k => impl_ReadLevelsText.f k (strOfNums (lvT xs))) (xs, true) := by
  have h2 := hB
  unfold levelsB at h2
  rw [Bool.and_eq_true] at h2
  have hn := of_decide_eq_true h2.2
  have hb := inAll_mem h2.1
  have hlen : (lvT xs).length = xs.length := by unfold lvT; rw [List.length_map]
  unfold impl_ReadLevelsText.f
  have h := RTi_l0 xs hB hn hb (strOfNums (lvT xs)) (by rw [str_size, hlen]) (by
    intro n hl
    have hl' : n < (lvT xs).length := by rw [hlen]; exact hl
    have ev : (lvT xs)[n]'hl' = bt (⟨#[45, 48, 43]⟩ : ByteArray) (rd xs (n : Int) + 1) := by
      simp only [lvT, List.getElem_map, rd_get hl]
    rw [bt_str hl' (by rw [ev]; exact bt_range _ _), ev]) xs.length 0 (by omega)
  exact h

/-! r8 -/
theorem wf_u8 {x : Int} (h : (Lit.int .u8 x).wf = true) : 0 ≤ x ∧ x ≤ 255 := by
  have h1 : decide (IntKind.min .u8 ≤ x) = true ∧ decide (x ≤ IntKind.max .u8) = true := by
    simpa [Lit.wf] using h
  obtain ⟨ha, hb⟩ := h1
  have ha := of_decide_eq_true ha
  have hb := of_decide_eq_true hb
  have e1 : IntKind.min .u8 = 0 := by decide
  have e2 : IntKind.max .u8 = 255 := by decide
  rw [e1] at ha
  rw [e2] at hb
  exact ⟨ha, hb⟩
theorem r8At_eq (l : List Int) (h : ∀ x ∈ l, (Lit.int .u8 x).wf = true) (a n : Int) (ha : 0 ≤ a) (hn : 1 ≤ n) : ∃ t, laws_r8At.f l a n = some t ∧ 0 ≤ t ∧ t < n := by
  unfold laws_r8At.f
  by_cases h1 : n ≤ 1
  · exact ⟨0, by rw [if_pos h1], by omega, by omega⟩
  by_cases h2 : a ≥ (l.length : Int)
  · exact ⟨0, by rw [if_neg h1, if_pos h2], by omega, by omega⟩
  obtain ⟨m, rfl⟩ := Int.eq_ofNat_of_zero_le ha
  have hm : m < l.length := by omega
  have hx := wf_u8 (h _ (rd_mem hm))
  have h0 : 0 ≤ Int.tmod (rd l (m : Int)) n := Int.tmod_nonneg _ hx.1
  have h3 : Int.tmod (rd l (m : Int)) n < n := Int.tmod_lt_of_pos _ (by omega)
  refine ⟨Int.tmod (rd l (m : Int)) n, ?_, h0, h3⟩
  rw [if_neg h1, if_neg h2, if_pos (by omega), if_pos (by omega), if_neg (by omega), w64 (by omega) (by omega)]
theorem r8Long_eq (l m : List Int) : ∃ b, laws_r8Long.f l m = some b ∧ (b = false → l.length ≤ 48 ∧ m.length ≤ 48) := by
  unfold laws_r8Long.f
  by_cases h : (l.length : Int) > 48
  · exact ⟨true, by rw [if_pos h], by simp⟩
  · refine ⟨decide ((m.length : Int) > 48), by rw [if_neg h], fun h2 => ?_⟩
    have h3 := of_decide_eq_false h2
    omega

/-! src -/
theorem u64_mod (z : Int) : IntKind.u64.wrap z = z % 18446744073709551616 := by simp [IntKind.wrap, IntKind.bits, IntKind.signed]
theorem u64_and255 (z : Int) : 0 ≤ wrap64 (Go.bits .and .u64 ((IntKind.u64.wrap z) / 1099511627776) 255) ∧ wrap64 (Go.bits .and .u64 ((IntKind.u64.wrap z) / 1099511627776) 255) ≤ 255 := by
  obtain ⟨Y, hY⟩ := Int.eq_ofNat_of_zero_le (show 0 ≤ (IntKind.u64.wrap z) / 1099511627776 by rw [u64_mod]; omega)
  have hlt : Y < 18446744073709551616 := by rw [u64_mod] at hY; omega
  rw [hY]
  have h2 : Go.bits .and .u64 (Y : Int) 255 = ((Y &&& 255 : Nat) : Int) := bits_and_u64_nat Y 255 hlt (by decide)
  rw [h2]
  have h3 : Y &&& 255 ≤ 255 := Nat.and_le_right
  rw [w64 (by omega) (by omega)]
  omega
theorem src_next (l : List Int) (h : ∀ x ∈ l, (Lit.int .u8 x).wf = true) (p : Nat) (hs : Int) (hp : p < 1099511627776) : ∃ v hs', spec_l00Src_next.f l (p : Int) hs = some (v, ((p + 1 : Nat) : Int), hs') ∧ 0 ≤ v ∧ v ≤ 255 := by
  have hw : wrap64 ((p : Int) + 1) = ((p + 1 : Nat) : Int) := w64_succ (by omega)
  unfold spec_l00Src_next.f
  by_cases h1 : p < l.length
  · have hx := wf_u8 (h _ (rd_mem h1))
    rw [if_pos (show (p : Int) < (l.length : Int) by omega), if_pos (show (0 : Int) ≤ (p : Int) by omega), hw, if_pos (show ((p + 1 : Nat) : Int) ≤ (l.length : Int) by omega)]
    refine ⟨_, _, rfl, ?_⟩
    rw [w64 (by omega) (by omega)]
    exact hx
  · rw [if_neg (show ¬ (p : Int) < (l.length : Int) by omega), hw, if_neg (show ¬ ((p + 1 : Nat) : Int) ≤ (l.length : Int) by omega)]
    exact ⟨_, _, rfl, u64_and255 _⟩
theorem src_pick (l : List Int) (h : ∀ x ∈ l, (Lit.int .u8 x).wf = true) (p : Nat) (hs a : Int) (hp : p < 1099511627776) (ha : 2 ≤ a) (ha2 : a ≤ 200) : ∃ v hs', spec_l00Src_pick.f l (p : Int) hs a = some (v, ((p + 1 : Nat) : Int), hs') ∧ 0 ≤ v ∧ v < a := by
  obtain ⟨v, hs', h1, h2, h3⟩ := src_next l h p hs hp
  unfold spec_l00Src_pick.f
  rw [if_neg (by omega), h1, Option.bind_some, if_neg (by omega), if_neg (by omega)]
  exact ⟨_, _, rfl, Int.tmod_nonneg _ h2, Int.tmod_lt_of_pos _ (by omega)⟩

/-! R8Bits -/
theorem src_one (l : List Int) (h : ∀ x ∈ l, (Lit.int .u8 x).wf = true) (p : Nat) (hs : Int) (hp : p < 1099511627776) : ∃ b hs', spec_l00Src_one.f l (p : Int) hs 2 = some (b, ((p + 1 : Nat) : Int), hs') := by
  obtain ⟨v, hs', h1, h2, h3⟩ := src_pick l h p hs 2 hp (by omega) (by omega)
  unfold spec_l00Src_one.f
  rw [h1, Option.bind_some]
  exact ⟨_, _, rfl⟩
theorem R8Bits_l0 (l : List Int) (h : ∀ x ∈ l, (Lit.int .u8 x).wf = true) : ∀ (d : Nat) (xs : List Int) (p : Nat) (hs : Int), p + 2 * d ≤ 1000000 → xs.length + d ≤ 1000 → (∀ x ∈ xs, x = 48 ∨ x = 49) →
    ∃ ys, Ev (fun k => spec_R8Bits.l0 k xs (d : Int) l (p : Int) hs) (strOfNums ys) ∧ ys.length = xs.length + d ∧ ∀ x ∈ ys, x = 48 ∨ x = 49 := by
  intro d
  induction d with
  | zero =>
    intro xs p hs h1 h2 hx
    have c1 : ¬ ((0 : Nat) : Int) > 0 := by omega
    refine ⟨xs, Ev.succ ?_, rfl, hx⟩
    simp only [spec_R8Bits.l0]
    refine Ev.cond (fun h' => absurd h' c1) (fun _ => Ev.now _)
  | succ d ih =>
    intro xs p hs h1 h2 hx
    have c1 : ((d + 1 : Nat) : Int) > 0 := by omega
    have c2 : xs.length < 140737488355328 := by omega
    have hw : wrap64 (((d + 1 : Nat) : Int) - 1) = (d : Int) := by rw [w64 (by omega) (by omega)]; omega
    obtain ⟨v, hs1, e1, v0, v1⟩ := src_pick l h p hs 2 (by omega) (by omega) (by omega)
    obtain ⟨b, hs2, e2⟩ := src_one l h (p + 1) hs1 (by omega)
    have hv : (wrap64 (48 + v)) % 256 = 48 ∨ (wrap64 (48 + v)) % 256 = 49 := by
      rw [w64 (by omega) (by omega)]; omega
    have app : ∀ y : Int, (y = 48 ∨ y = 49) → ∀ x ∈ xs ++ [y], x = 48 ∨ x = 49 := by
      intro y hy x hm
      rcases List.mem_append.1 hm with hm | hm
      · exact hx x hm
      · rw [List.mem_singleton] at hm; rw [hm]; exact hy
    by_cases h0 : (xs.length : Int) > 0
    · have hlast : wrap64 ((xs.length : Int) - 1) = ((xs.length - 1 : Nat) : Int) := by rw [w64 (by omega) (by omega)]; omega
      have c3 : (0 : Int) ≤ ((xs.length - 1 : Nat) : Int) := by omega
      have c4 : ((xs.length - 1 : Nat) : Int) < (xs.length : Int) := by omega
      by_cases hb : b = true
      · have hr : rd xs ((xs.length - 1 : Nat) : Int) = 48 ∨ rd xs ((xs.length - 1 : Nat) : Int) = 49 := hx _ (rd_mem (by omega))
        obtain ⟨ys, y1, y2, y3⟩ := ih (xs ++ [rd xs ((xs.length - 1 : Nat) : Int)]) (p + 2) hs2 (by omega) (by rw [List.length_append, List.length_singleton]; omega) (app _ hr)
        refine ⟨ys, Ev.succ ?_, by rw [y2, List.length_append, List.length_singleton]; omega, y3⟩
        simp only [spec_R8Bits.l0, hw, hlast]
        refine Ev.cond (fun _ => ?_) (fun h' => absurd c1 h')
        refine Ev.bind (Ev.const e1) ?_
        refine Ev.cond (fun _ => ?_) (fun h' => absurd h0 h')
        refine Ev.bind (Ev.const e2) ?_
        refine Ev.cond (fun _ => ?_) (fun h' => absurd hb h')
        refine Ev.cond (fun _ => ?_) (fun h' => absurd c3 h')
        refine Ev.cond (fun _ => ?_) (fun h' => absurd c4 h')
        exact Ev.cond (fun _ => y1) (fun h' => absurd c2 h')
      · obtain ⟨ys, y1, y2, y3⟩ := ih (xs ++ [(wrap64 (48 + v)) % 256]) (p + 2) hs2 (by omega) (by rw [List.length_append, List.length_singleton]; omega) (app _ hv)
        refine ⟨ys, Ev.succ ?_, by rw [y2, List.length_append, List.length_singleton]; omega, y3⟩
        simp only [spec_R8Bits.l0, hw, hlast]
        refine Ev.cond (fun _ => ?_) (fun h' => absurd c1 h')
        refine Ev.bind (Ev.const e1) ?_
        refine Ev.cond (fun _ => ?_) (fun h' => absurd h0 h')
        refine Ev.bind (Ev.const e2) ?_
        refine Ev.cond (fun h' => absurd h' hb) (fun _ => ?_)
        exact Ev.cond (fun _ => y1) (fun h' => absurd c2 h')
    · obtain ⟨ys, y1, y2, y3⟩ := ih (xs ++ [(wrap64 (48 + v)) % 256]) (p + 1) hs1 (by omega) (by rw [List.length_append, List.length_singleton]; omega) (app _ hv)
      refine ⟨ys, Ev.succ ?_, by rw [y2, List.length_append, List.length_singleton]; omega, y3⟩
      simp only [spec_R8Bits.l0, hw]
      refine Ev.cond (fun _ => ?_) (fun h' => absurd c1 h')
      refine Ev.bind (Ev.const e1) ?_
      refine Ev.cond (fun h' => absurd h' h0) (fun _ => ?_)
      exact Ev.cond (fun _ => y1) (fun h' => absurd c2 h')
theorem str_bits {ys : List Int} (h : ∀ x ∈ ys, x = 48 ∨ x = 49) : (strOfNums ys).data.toList.all isBitB = true := by
  rw [List.all_eq_true]
  intro b hb
  have e : (strOfNums ys).data.toList = ys.map fun n => UInt8.ofNat n.toNat := by simp [strOfNums]
  rw [e, List.mem_map] at hb
  obtain ⟨x, hx, rfl⟩ := hb
  rcases h x hx with rfl | rfl <;> decide
theorem R8Bits_ev (l : List Int) (h : ∀ x ∈ l, (Lit.int .u8 x).wf = true) (n : Nat) (hn1 : 1 ≤ n) (hn : n ≤ 100) : ∃ s : ByteArray, Ev (fun k => spec_R8Bits.f k l (n : Int)) s ∧ s.size ≤ n ∧ s.data.toList.all isBitB = true := by
  have hw : wrap64 ((n : Int) + 1) = (n : Int) + 1 := w64 (by omega) (by omega)
  obtain ⟨v, hs, e1, v0, v1⟩ := src_pick l h 0 0 ((n : Int) + 1) (by omega) (by omega) (by omega)
  obtain ⟨v, rfl⟩ := Int.eq_ofNat_of_zero_le v0
  obtain ⟨ys, y1, y2, y3⟩ := R8Bits_l0 l h v [] 1 hs (by omega) (by simp; omega) (by simp)
  refine ⟨strOfNums ys, ?_, by rw [str_size, y2, List.length_nil]; omega, str_bits y3⟩
  unfold spec_R8Bits.f spec_l00From.f
  refine Ev.bind (Ev.const rfl) ?_
  rw [hw]
  exact Ev.bind (Ev.const e1) y1

/-! r8Nums -/
theorem r8Nums_l0 (xs : List Int) (hn : xs.length ≤ 1099511627776) : ∀ d n, n + d = xs.length → Ev (fun k => laws_r8Nums.l0 k xs xs (n : Int)) true := by
  intro d
  induction d with
  | zero =>
    intro n h
    have h1 : ¬ ((n : Int) < (xs.length : Int)) := by omega
    apply Ev.succ
    simp only [laws_r8Nums.l0]
    exact Ev.cond (fun h' => absurd h' h1) (fun _ => Ev.now _)
  | succ d ih =>
    intro n h
    have h1 : (n : Int) < (xs.length : Int) := by omega
    have h2 : (0 : Int) ≤ (n : Int) := by omega
    have h3 := ih (n + 1) (by omega)
    apply Ev.succ
    simp only [laws_r8Nums.l0, w64_succ (show n < 9223372036854775807 by omega)]
    refine Ev.cond (fun _ => ?_) (fun h' => absurd h1 h')
    refine Ev.cond (fun _ => ?_) (fun h' => absurd h2 h')
    refine Ev.cond (fun _ => ?_) (fun h' => absurd h1 h')
    exact Ev.cond (fun _ => h3) (fun h' => absurd trivial h')
theorem r8Nums_same (xs : List Int) (hn : xs.length ≤ 1099511627776) : Ev (fun k => laws_r8Nums.f k xs xs) true := by
  unfold laws_r8Nums.f
  exact Ev.cond (fun _ => r8Nums_l0 xs hn xs.length 0 (by omega)) (fun h' => absurd rfl h')

theorem sums_pair (kind : Int) (hk : kind = 2 ∨ kind = 3) (l : List UInt8) : ∀ (s : Int), sOK kind s → sumsIn (-1) 1 0 (lvGo kind s l) := by
  induction l with
  | nil => intro s hs; exact trivial
  | cons c l ih =>
    intro s hs
    have hn := ih _ (sOK_next hs (c == 49))
    have step : ∃ x, -1 ≤ x ∧ x ≤ 1 ∧ lvOut kind s (c == 49) = [x, -x] := by
      generalize (c == 49) = b
      rcases hk with rfl | rfl <;> rcases hs with ⟨h, rfl⟩ | ⟨h, rfl | rfl⟩ | ⟨h, rfl⟩ | ⟨h, rfl | rfl⟩ | ⟨h, rfl | rfl⟩ | ⟨h, rfl | rfl | rfl | rfl⟩ <;> first | exact absurd h (by decide) | (cases b <;> first | exact ⟨1, by decide, by decide, by decide⟩ | exact ⟨-1, by decide, by decide, by decide⟩)
    obtain ⟨x, x1, x2, e⟩ := step
    rw [lvGo, e]
    have e0 : (0 : Int) + x + -x = 0 := by omega
    show -1 ≤ 0 + x ∧ 0 + x ≤ 1 ∧ -1 ≤ 0 + x + -x ∧ 0 + x + -x ≤ 1 ∧ sumsIn (-1) 1 (0 + x + -x) _
    rw [e0]
    exact ⟨by omega, by omega, by omega, by omega, hn⟩
theorem sums_alt (l : List UInt8) : ∀ (s : Int), (s = 1 ∨ s = -1) → sumsIn 0 1 (if s = 1 then 0 else 1) (lvGo 4 s l) := by
  induction l with
  | nil => intro s hs; exact trivial
  | cons c l ih =>
    intro s hs
    rw [lvGo]
    generalize (c == 49) = b
    rcases hs with rfl | rfl <;> cases b
    · exact ⟨by decide, by decide, ih 1 (.inl rfl)⟩
    · exact ⟨by decide, by decide, ih (-1) (.inr rfl)⟩
    · exact ⟨by decide, by decide, ih (-1) (.inr rfl)⟩
    · exact ⟨by decide, by decide, ih 1 (.inl rfl)⟩
theorem FnLevelled : laws_FnLevelled.Pure := by
  intro l m hl hl2 hlw hm hm2 hmw
  refine Ev.rounds ?_
  unfold laws_FnLevelled.f
  obtain ⟨b, hb, _⟩ := r8Long_eq l m
  refine Ev.bind (Ev.const hb) ?_
  refine Ev.cond (fun _ => Ev.now _) (fun _ => ?_)
  obtain ⟨kind, hkd, hk0, hk1⟩ := r8At_eq l hlw 0 6 (by omega) (by omega)
  obtain ⟨t, ht, hts, htb⟩ := R8Bits_ev m hmw 30 (by omega) (by omega)
  have hk : kindB kind = true := decide_eq_true (by omega)
  have hks := kinds_of hk
  have htB : bitsB t = true := by unfold bitsB; rw [htb, decide_eq_true (show t.size ≤ 400 by omega)]; rfl
  have hlo := LO_impl kind t (by omega)
  unfold LO_ans at hlo
  rw [if_pos ⟨hk, htB⟩] at hlo
  have hs : sOK kind (lvStart kind) := sOK_start hks
  have hlen : (levelsN kind t.data.toList).length = (if kind = 2 ∨ kind = 3 then 2 else 1) * t.size := by
    unfold levelsN; rw [lvGo_len _ hs, size_data]
  have hlen2 : (levelsN kind t.data.toList).length ≤ 60 := by rw [hlen]; split <;> omega
  have hin : ∀ x ∈ levelsN kind t.data.toList, -1 ≤ x ∧ x ≤ 1 := lvGo_in _ hs
  have hrd := RB_read kind hk t.data.toList
  have hlv := levelsOf_ev kind hk t (by omega)
  have sp : (kind = 2 ∨ kind = 3) → sumsIn (-1) 1 0 (levelsN kind t.data.toList) := fun h => sums_pair kind h _ _ hs
  have sa : kind = 4 → sumsIn 0 1 0 (levelsN kind t.data.toList) := fun h => by subst h; exact sums_alt t.data.toList 1 (.inl rfl)
  have hfw : Ev (fun k => impl_FirstWrong.l0 k kind (levelsN kind t.data.toList) ((0 : Nat) : Int) kind (wLevel kind (lvStart kind)) (wNext kind (lvStart kind)) (wFrom kind (lvStart kind))) (0, false) := by
    by_cases hp : kind = 2 ∨ kind = 3
    · exact FWn_l0 kind hk 2 (by unfold perN; rw [if_pos hp]; rfl) (by rw [if_pos hp]) _ (by omega) t.data.toList 0 (lvStart kind) hs rfl (Nat.zero_le _)
    · exact FWn_l0 kind hk 1 (by unfold perN; rw [if_neg hp]; rfl) (by rw [if_neg hp]) _ (by omega) t.data.toList 0 (lvStart kind) hs rfl (Nat.zero_le _)
  generalize levelsN kind t.data.toList = L at hlo hlen hlen2 hin hrd hlv sp sa hfw
  have hL : levelsB L = true := by unfold levelsB; rw [inAll_of hin, decide_eq_true (show L.length ≤ 800 by omega)]; rfl
  have hcan : canB kind L = true := by
    unfold canB
    rw [hk, hL, Bool.true_and, Bool.true_and]
    by_cases hp : kind = 2 ∨ kind = 3
    · rw [if_pos hp] at hlen ⊢
      exact decide_eq_true (by omega)
    · rw [if_neg hp]
      exact decide_eq_true (by omega)
  have t3 := RdI_impl kind L (by omega)
  unfold RdI_ans at t3
  rw [if_pos hcan, hrd, RB_str t htb] at t3
  have t4 : Ev (fun k => impl_BitsOfLevels.f k kind L) (t, true) := by
    unfold impl_BitsOfLevels.f
    refine Ev.bind t3 ?_
    refine Ev.cond (fun _ => ?_) (fun h' => absurd (by trivial) h')
    refine Ev.bind hlv ?_
    have he := slicesEqual_ev L L (by omega)
    rw [decide_eq_true rfl] at he
    refine Ev.bind he ?_
    exact Ev.cond (fun _ => Ev.now _) (fun h' => absurd (by trivial) h')
  have t5 : Ev (fun k => impl_FirstWrong.f k kind L) (0, false) := by
    unfold impl_FirstWrong.f
    refine Ev.bind (Ev.const (isLine_eq kind)) ?_
    refine Ev.cond (fun _ => ?_) (fun h' => absurd hk h')
    refine Ev.bind (areLevels_ev L (by omega)) ?_
    refine Ev.cond (fun _ => ?_) (fun h' => absurd hL h')
    refine Ev.bind (Ev.const (perBit_eq kind)) ?_
    have hp12 : perN kind = 1 ∨ perN kind = 2 := by unfold perN; split <;> simp
    have e : decide ((L.length : Int) > wrap64 (400 * perN kind)) = false := decide_eq_false (by
      rcases hp12 with e | e <;> rw [e] <;> rw [w64 (by omega) (by omega)] <;> omega)
    rw [e]
    apply Ev.succ
    simp only [impl_FirstWrong.j0]
    refine Ev.cond (fun h' => absurd h' (by decide)) (fun _ => ?_)
    refine Ev.bind (Ev.const (newWire_eq kind)) ?_
    have e2 : beforeN kind = wLevel kind (lvStart kind) ∧ (1 : Int) = wNext kind (lvStart kind) ∧ (-1 : Int) = wFrom kind (lvStart kind) := by
      rcases hks with rfl | rfl | rfl | rfl | rfl | rfl <;> decide
    rw [← e2.1, ← e2.2.1, ← e2.2.2] at hfw
    exact hfw
  have t6 := SOi_ev L hL
  have t7 := LTi_ev L hL
  have t8 := RTi_ev L hL
  obtain ⟨m1, m2⟩ := sumsR_mono L 0 0 0
  refine Ev.bind (Ev.const hkd) (Ev.bind ht (Ev.bind hlo (Ev.bind t4 (Ev.bind t3 (Ev.bind t5 (Ev.bind t6 (Ev.bind t7 (Ev.bind t8 ?_))))))))
  refine Ev.cond (fun _ => ?_) (fun h' => absurd (by trivial) h')
  refine Ev.cond (fun _ => ?_) (fun h' => absurd (by trivial) h')
  refine Ev.cond (fun _ => ?_) (fun h' => absurd (by trivial) h')
  refine Ev.cond (fun h' => absurd h' (by decide)) (fun _ => ?_)
  refine Ev.cond (fun _ => ?_) (fun h' => absurd (by trivial) h')
  refine Ev.cond (fun _ => ?_) (fun h' => absurd (by trivial) h')
  refine Ev.cond (fun _ => ?_) (fun h' => absurd (by trivial) h')
  refine Ev.cond (fun _ => ?_) (fun h' => absurd (by trivial) h')
  refine Ev.cond (fun _ => ?_) (fun h' => absurd (by trivial) h')
  refine Ev.bind (r8Nums_same L (by omega)) ?_
  refine Ev.cond (fun _ => ?_) (fun h' => absurd (by trivial) h')
  refine Ev.cond (fun h' => absurd h' (by omega)) (fun _ => ?_)
  have e : decide ((sumsR 0 0 0 L).2 < 0) = false := decide_eq_false (by omega)
  rw [e]
  have hw : wrap64 (2 * (t.size : Int)) = 2 * (t.size : Int) := w64 (by omega) (by omega)
  apply Ev.succ
  simp only [laws_FnLevelled.j0, hw]
  refine Ev.cond (fun h' => absurd h' (by decide)) (fun _ => ?_)
  have last : Ev (fun k => if kind = 4 then (if (sumsR 0 0 0 L).1 = 0 then (some (decide ((sumsR 0 0 0 L).2 ≤ 1))) else (some false)) else (some true)) true := by
    refine Ev.cond (fun h4 => ?_) (fun _ => Ev.now _)
    obtain ⟨g1, g2⟩ := sumsR_in L 0 0 0 (sa h4) (Int.le_refl _) (by omega)
    refine Ev.cond (fun _ => ?_) (fun h' => absurd (by omega) h')
    rw [decide_eq_true g2]
    exact Ev.now _
  have pair : (kind = 2 ∨ kind = 3) → Ev (fun k => if (sumsR 0 0 0 L).1 < (-1) then (some false) else (if (sumsR 0 0 0 L).2 > 1 then (some false) else (if (L.length : Int) = 2 * (t.size : Int) then (if kind = 4 then (if (sumsR 0 0 0 L).1 = 0 then (some (decide ((sumsR 0 0 0 L).2 ≤ 1))) else (some false)) else (some true)) else (some false)))) true := by
    intro hp
    obtain ⟨g1, g2⟩ := sumsR_in L 0 0 0 (sp hp) (by omega) (by omega)
    rw [if_pos hp] at hlen
    refine Ev.cond (fun h' => absurd h' (by omega)) (fun _ => ?_)
    refine Ev.cond (fun h' => absurd h' (by omega)) (fun _ => ?_)
    exact Ev.cond (fun _ => last) (fun h' => absurd (by omega) h')
  refine Ev.cond (fun h2 => pair (.inl h2)) (fun _ => ?_)
  exact Ev.cond (fun h3 => pair (.inr h3)) (fun _ => last)

end Go.Proofs.YtgofcgjpmiojjaaDoor.Pure
