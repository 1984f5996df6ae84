/- Levels that are turned twice are what they were, and those of four kinds are read as before when they are turned, from the second bit on. -/
import Derived.Test.YtgofcgjpmiojjaaDoorQFnTurnedLevelsx6
import Derived.Test.YtgofcgjpmiojjaaDoorBase
import Derived.Test.YtgofcgjpmiojjaaDoorLevels
namespace Go.Proofs.YtgofcgjpmiojjaaDoor.Pure
open Go.RowKit Go.Proofs.YtgofcgjpmiojjaaDoor.QFnTurnedLevels Go.Proofs.YtgofcgjpmiojjaaDoor.Base Go.Proofs.YtgofcgjpmiojjaaDoorW.PrintWords Go.Proofs.YtgofcgjpmiojjaaDoorW.PrintLast Go.Proofs.YtgofcgjpmiojjaaDoorW.PrintMore
open Go.Proofs.YtgofcgjpmiojjaaDoor.Levels
set_option linter.unusedVariables false
set_option linter.unusedSimpArgs false

/-! within -/
theorem within_eq (a b c : Int) : impl_within.f a b c = some (decide (b ≤ a ∧ a ≤ c)) := by
  unfold impl_within.f
  by_cases h : b ≤ a
  · simp [h, ge_iff_le]
  · simp [h, ge_iff_le]

/-! l00In -/

/-! lineKinds -/
def kindB (kind : Int) : Bool := decide (0 ≤ kind ∧ kind ≤ 5)
def pairB (kind : Int) : Bool := decide (kind = 2 ∨ kind = 3)
def perN (kind : Int) : Int := if kind = 2 ∨ kind = 3 then 2 else 1
theorem kinds_of {kind : Int} (h : kindB kind = true) : kind = 0 ∨ kind = 1 ∨ kind = 2 ∨ kind = 3 ∨ kind = 4 ∨ kind = 5 := by
  have h := of_decide_eq_true h
  omega
theorem isLine_eq (kind : Int) : impl_isLine.f kind = some (kindB kind) := by
  unfold impl_isLine.f kindB
  rw [within_eq]; rfl
theorem isPaired_eq (kind : Int) : impl_isPaired.f kind = some (pairB kind) := by
  unfold impl_isPaired.f pairB
  by_cases h : kind = 2
  · simp [h]
  · by_cases h3 : kind = 3
    · simp [h3]
    · simp [h, h3]

/-! lineBefore -/
def beforeN (kind : Int) : Int := if kind = 1 ∨ kind = 3 then -1 else 0

/-! lineMore -/
theorem perBit_eq (kind : Int) : impl_perBit.f kind = some (perN kind) := by
  unfold impl_perBit.f perN
  rw [isPaired_eq]
  unfold pairB
  by_cases h : kind = 2 ∨ kind = 3
  · simp [h]
  · simp [h]
theorem newWire_eq (kind : Int) : impl_newWire.f kind = some (kind, beforeN kind, 1, -1) := by
  unfold impl_newWire.f beforeN
  by_cases h : kind = 1
  · simp [h]
  · by_cases h3 : kind = 3
    · simp [h3]
    · simp [h, h3]
theorem bitOf_eq (b : Bool) : impl_bitOf.f b = some (bitStr b) := by cases b <;> rfl

/-! levelsImpl -/
theorem send_eq {kind s : Int} (h : sOK kind s) (b : Bool) : impl_wire_send.f kind (wLevel kind s) (wNext kind s) (wFrom kind s) b = some (lvOut kind s b, kind, wLevel kind (lvNext kind s b), wNext kind (lvNext kind s b), wFrom kind (lvNext kind s b)) := by
  rcases h with ⟨rfl, rfl⟩ | ⟨rfl, rfl | rfl⟩ | ⟨rfl, rfl⟩ | ⟨rfl, rfl | rfl⟩ | ⟨rfl, rfl | rfl⟩ | ⟨rfl, rfl | rfl | rfl | rfl⟩ <;> cases b <;> decide +kernel
theorem levelsOf_l0 (kind : Int) (t : ByteArray) (ht : t.size ≤ 1048576) : ∀ (d n : Nat) (c : List Int) (s : Int), sOK kind s → c.length ≤ 2 * n → n + d = t.size →
    Ev (fun k => impl_levelsOf.l0 k t c (t.size : Int) (n : Int) kind (wLevel kind s) (wNext kind s) (wFrom kind s)) (c ++ lvGo kind s (t.data.toList.drop n)) := by
  intro d
  induction d with
  | zero =>
    intro n c s hs hc h
    have c1 : ¬ ((n : Int) < (t.size : Int)) := by omega
    have c2 : t.data.toList.drop n = [] := List.drop_eq_nil_of_le (by rw [size_data]; omega)
    apply Ev.succ
    simp only [impl_levelsOf.l0]
    rw [c2, lvGo, List.append_nil]
    exact Ev.cond (fun h' => absurd h' c1) (fun _ => Ev.now _)
  | succ d ih =>
    intro n c s hs hc h
    have hl : n < t.size := by omega
    have c1 : (n : Int) < (t.size : Int) := by omega
    have c2 : (0 : Int) ≤ (n : Int) := by omega
    have hbt : (bt t (n : Int) == 49) = (t[n] == 49) := by
      rw [bt_nat t n hl, Bool.eq_iff_iff, beq_iff_eq, beq_iff_eq]
      constructor
      · intro h'; exact UInt8.toNat_inj.1 (by show (t[n]).toNat = 49; omega)
      · intro h'; rw [h']; rfl
    have hlen := lvOut_len hs (t[n] == 49)
    have hlen2 : (lvOut kind s (t[n] == 49)).length ≤ 2 := by rw [hlen]; split <;> omega
    have h3 := ih (n + 1) (c ++ lvOut kind s (t[n] == 49)) (lvNext kind s (t[n] == 49)) (sOK_next hs _) (by rw [List.length_append]; omega) (by omega)
    rw [List.append_assoc] at h3
    rw [drop_data hl, lvGo]
    apply Ev.succ
    simp only [impl_levelsOf.l0]
    refine Ev.cond (fun _ => ?_) (fun h' => absurd c1 h')
    refine Ev.cond (fun _ => ?_) (fun h' => absurd c2 h')
    refine Ev.cond (fun _ => ?_) (fun h' => absurd c1 h')
    rw [hbt]
    refine Ev.bind (Ev.const (send_eq hs _)) ?_
    refine Ev.cond (fun _ => ?_) (fun h' => absurd (by show c.length + (lvOut kind s (t[n] == 49)).length < 17592186044416; omega) h')
    rw [w64_succ (show n < 9223372036854775807 by omega)]
    exact h3
theorem levelsOf_ev (kind : Int) (hk : kindB kind = true) (t : ByteArray) (ht : t.size ≤ 1048576) : Ev (fun k => impl_levelsOf.f k kind t) (levelsN kind t.data.toList) := by
  unfold impl_levelsOf.f
  have hk' := kinds_of hk
  have e : beforeN kind = wLevel kind (lvStart kind) ∧ (1 : Int) = wNext kind (lvStart kind) ∧ (-1 : Int) = wFrom kind (lvStart kind) := by
    rcases hk' with rfl | rfl | rfl | rfl | rfl | rfl <;> decide
  refine Ev.bind (Ev.const (newWire_eq kind)) ?_
  have h := levelsOf_l0 kind t ht t.size 0 [] (lvStart kind) (sOK_start hk') (by simp) (by omega)
  rw [← e.1, ← e.2.1, ← e.2.2] at h
  exact h

/-! IsBits -/
theorem trim_bits (s : ByteArray) (h : s.size ≤ 9223372036854775807) : strings_Trim.f s (⟨#[48, 49]⟩ : ByteArray) = some ⟨(Lib.trimS s.data.toList [48, 49]).toArray⟩ := by
  unfold strings_Trim.f
  rw [if_pos ⟨h, by decide, by decide⟩]
theorem areBits_eq (s : ByteArray) (h : s.size ≤ 9223372036854775807) : impl_areBits.f s = some (s.data.toList.all isBitB) := by
  unfold impl_areBits.f
  rw [trim_bits s h, Option.bind_some]
  congr 1
  have e1 : (⟨(Lib.trimS s.data.toList [48, 49]).toArray⟩ : ByteArray).toList = Lib.trimS s.data.toList [48, 49] := by rw [Lib.toList_data]
  rw [e1, Bool.eq_iff_iff, beq_iff_eq, trimS_nil]
  have e2 : (fun b => ([48, 49] : List UInt8).contains b) = isBitB := funext contains_bits
  rw [e2]
theorem IsBits_eq (s : ByteArray) (h : s.size ≤ 9223372036854775807) : impl_IsBits.f s = some (bitsB s) := by
  unfold impl_IsBits.f bitsB
  by_cases h4 : s.size ≤ 400
  · have h4' : (s.size : Int) ≤ 400 := by omega
    simp only [h4', if_true, areBits_eq s h, Option.bind_some, h4, decide_true, Bool.and_true]
  · have h4' : ¬ (s.size : Int) ≤ 400 := by omega
    simp only [h4', if_false, h4, decide_false, Bool.and_false]

/-! LevelsOfI -/
def LO_ans (kind : Int) (t : ByteArray) : List Int × Bool := if kindB kind = true ∧ bitsB t = true then (levelsN kind t.data.toList, true) else ([], false)
theorem LO_len (kind : Int) (t : ByteArray) : (LO_ans kind t).1.length ≤ 1048576 := by
  unfold LO_ans
  split
  · rename_i h
    have h2 := h.2
    unfold bitsB at h2
    rw [Bool.and_eq_true] at h2
    have h3 := of_decide_eq_true h2.2
    have hs : sOK kind (lvStart kind) := sOK_start (kinds_of h.1)
    unfold levelsN
    rw [lvGo_len _ hs, size_data]
    split <;> omega
  · exact Nat.zero_le _
theorem LO_impl (kind : Int) (t : ByteArray) (ht : t.size ≤ 1048576) : Ev (fun k => impl_LevelsOf.f k kind t) (LO_ans kind t) := by
  unfold impl_LevelsOf.f LO_ans
  refine Ev.bind (Ev.const (isLine_eq kind)) ?_
  by_cases h1 : kindB kind = true
  · refine Ev.cond (fun _ => ?_) (fun h' => absurd h1 h')
    refine Ev.bind (Ev.const (IsBits_eq t (by omega))) ?_
    by_cases h2 : bitsB t = true
    · refine Ev.cond (fun _ => ?_) (fun h' => absurd h2 h')
      rw [if_pos ⟨h1, h2⟩]
      exact Ev.bind (levelsOf_ev kind h1 t ht) (Ev.now _)
    · refine Ev.cond (fun h' => absurd h' h2) (fun _ => ?_)
      rw [if_neg (fun h => h2 h.2)]
      exact Ev.now _
  · refine Ev.cond (fun h' => absurd h' h1) (fun _ => ?_)
    rw [if_neg (fun h => h1 h.1)]
    exact Ev.now _

/-! areIn -/
theorem areIn_l0 (lo hi : Int) (xs : List Int) (hn : xs.length ≤ 1099511627776) : ∀ d n, n + d = xs.length → Ev (fun k => impl_areIn.l0 k lo hi xs (xs.length : Int) (n : Int)) (inAll lo hi (xs.drop n)) := by
  intro d
  induction d with
  | zero =>
    intro n h
    apply Ev.succ
    have h1 : ¬ ((n : Int) < (xs.length : Int)) := by omega
    have h2 : xs.drop n = [] := List.drop_eq_nil_of_le (by omega)
    simp only [impl_areIn.l0, h1, if_false, h2]
    exact Ev.now true
  | succ d ih =>
    intro n h
    apply Ev.succ
    have h1 : (n : Int) < (xs.length : Int) := by omega
    have h2 : (0 : Int) ≤ (n : Int) := by omega
    have h3 := ih (n + 1) (by omega)
    rw [drop_rd (show n < xs.length by omega), inAll_cons]
    simp only [impl_areIn.l0, h1, h2, if_true, within_eq, Option.bind_some, w64_succ (show n < 9223372036854775807 by omega)]
    by_cases hc : lo ≤ rd xs (n : Int) ∧ rd xs (n : Int) ≤ hi
    · simp only [hc, decide_true, if_true, Bool.true_and, and_self]; exact h3
    · simp only [hc, decide_false, Bool.false_and, Bool.false_eq_true, if_false]; exact Ev.now false
theorem areIn_ev (lo hi : Int) (xs : List Int) (hn : xs.length ≤ 1099511627776) : Ev (fun k => impl_areIn.f k xs lo hi) (inAll lo hi xs) := by
  have h := areIn_l0 lo hi xs hn xs.length 0 (by omega)
  exact h

/-! areLevels -/
theorem areLevels_ev (xs : List Int) (hn : xs.length ≤ 1099511627776) : Ev (fun k => impl_areLevels.f k xs) (levelsB xs) := by
  unfold impl_areLevels.f levelsB
  by_cases h : xs.length ≤ 800
  · have h1 : (xs.length : Int) ≤ 800 := by omega
    simp only [h1, if_true, h, decide_true, Bool.and_true]
    exact Ev.bind (areIn_ev (-1) 1 xs hn) (Ev.now _)
  · have h1 : ¬ (xs.length : Int) ≤ 800 := by omega
    simp only [h1, if_false, h, decide_false, Bool.and_false]
    exact Ev.now _

/-! l10Is -/

/-! canRead -/
def canB (kind : Int) (xs : List Int) : Bool := kindB kind && levelsB xs && (if kind = 2 ∨ kind = 3 then decide (xs.length % 2 = 0) else decide (xs.length ≤ 400))
theorem canRead_ev (kind : Int) (xs : List Int) (hn : xs.length ≤ 1099511627776) : Ev (fun k => impl_canRead.f k kind xs) (canB kind xs) := by
  unfold impl_canRead.f canB
  simp only [isLine_eq, Option.bind_some]
  by_cases h1 : kindB kind = true
  · simp only [h1, if_true, Bool.true_and]
    refine Ev.bind (areLevels_ev xs hn) ?_
    by_cases h2 : levelsB xs = true
    · have hl : xs.length ≤ 800 := by
        unfold levelsB at h2; rw [Bool.and_eq_true] at h2; exact of_decide_eq_true h2.2
      simp only [h2, if_true, Bool.true_and, perBit_eq, Option.bind_some]
      by_cases h3 : kind = 2 ∨ kind = 3
      · have hp : perN kind = 2 := by unfold perN; rw [if_pos h3]
        have hw : wrap64 ((xs.length : Int) / 2) = (xs.length : Int) / 2 := w64 (by omega) (by omega)
        have h5 : ((xs.length : Int) / 2 ≤ 400) = True := by simp only [eq_iff_iff, iff_true]; omega
        simp only [h3, if_true, hp, Int.reduceEq, if_false, hw, h5, decide_true]
        by_cases h4 : xs.length % 2 = 0
        · have h4' : (xs.length : Int) % 2 = 0 := by omega
          simp only [h4, h4', if_true, decide_true]; exact Ev.now _
        · have h4' : ¬ (xs.length : Int) % 2 = 0 := by omega
          simp only [h4, h4', if_false, decide_false]; exact Ev.now _
      · have hp : perN kind = 1 := by unfold perN; rw [if_neg h3]
        have hw : wrap64 ((xs.length : Int) / 1) = (xs.length : Int) := by rw [Int.ediv_one]; exact w64 (by omega) (by omega)
        have h4 : (xs.length : Int) % 1 = 0 := by omega
        have h5 : ((xs.length : Int) ≤ 400) = (xs.length ≤ 400) := propext ⟨fun h => by omega, fun h => by omega⟩
        simp only [h3, if_false, hp, Int.reduceEq, hw, h4, if_true, h5]; exact Ev.now _
    · simp only [h2, if_false, Bool.false_and]; exact Ev.now _
  · simp only [h1, Bool.false_eq_true, if_false, Bool.false_and]; exact Ev.now _
theorem canB_pair {kind : Int} {xs : List Int} (h : canB kind xs = true) : kindB kind = true ∧ levelsB xs = true ∧ (pairB kind = true → xs.length % 2 = 0) := by
  unfold canB at h
  rw [Bool.and_eq_true, Bool.and_eq_true] at h
  refine ⟨h.1.1, h.1.2, fun hp => ?_⟩
  have hp := of_decide_eq_true hp
  rw [if_pos hp] at h
  exact of_decide_eq_true h.2

/-! readDefs -/
/-- What levels are read as: kinds with one level a bit, kinds with two. -/
def readS (kind last : Int) : List Int → List Int
  | [] => []
  | x :: r => bitN (if kind = 0 then x == 1 else if kind = 4 then x != 0 else x != last) :: readS kind x r
def readP (kind last : Int) : List Int → List Int
  | x :: y :: r => bitN (if kind = 3 then x == last else decide (x < y)) :: readP kind y r
  | _ => []
def readN (kind : Int) (xs : List Int) : List Int := if kind = 2 ∨ kind = 3 then readP kind (beforeN kind) xs else readS kind (beforeN kind) xs
theorem drop_two {xs : List Int} {n : Nat} (h : n + 1 < xs.length) : xs.drop n = rd xs (n : Int) :: rd xs ((n + 1 : Nat) : Int) :: xs.drop (n + 2) := by
  rw [drop_rd (show n < xs.length by omega), drop_rd h]

/-! readLevelsI -/
theorem rl_tail {kind : Int} {Q : Nat} (hQ : perN kind = (Q : Int)) (hQ1 : 1 ≤ Q) (hQ2 : Q ≤ 2) {xs c : List Int} {n : Nat} {b : Bool} {r : ByteArray} (hlen : n + Q ≤ xs.length) (hx : xs.length ≤ 1099511627776) (hc : c.length ≤ n)
    (h : Ev (fun k => impl_readLevels.l0 k kind xs (c ++ [bitN b]) (rd xs ((n + Q - 1 : Nat) : Int)) ((n + Q : Nat) : Int)) r) :
    Ev (fun k => (impl_perBit.f kind).bind fun t => (if 0 ≤ (wrap64 ((wrap64 ((n : Int) + t)) - 1)) then (if (wrap64 ((wrap64 ((n : Int) + t)) - 1)) < (xs.length : Int) then ((impl_bitOf.f b).bind fun t' => (if c.length + t'.size < 140737488355328 then ((impl_perBit.f kind).bind fun t'' => (impl_readLevels.l0 k kind xs (c ++ bytesOf t') (rd xs (wrap64 ((wrap64 ((n : Int) + t)) - 1))) (wrap64 ((n : Int) + t'')))) else (none))) else (none)) else (none))) r := by
  refine Ev.bind (Ev.const (perBit_eq kind)) ?_
  have e1 : wrap64 ((n : Int) + (Q : Int)) = ((n + Q : Nat) : Int) := by rw [w64 (by omega) (by omega)]; omega
  have e2 : wrap64 (((n + Q : Nat) : Int) - 1) = ((n + Q - 1 : Nat) : Int) := by rw [w64 (by omega) (by omega)]; omega
  rw [hQ, e1, e2]
  refine Ev.cond (fun _ => ?_) (fun h' => absurd (by omega) h')
  refine Ev.cond (fun _ => ?_) (fun h' => absurd (by omega) h')
  refine Ev.bind (Ev.const (bitOf_eq b)) ?_
  refine Ev.cond (fun _ => ?_) (fun h' => absurd (by rw [bitStr_size]; omega) h')
  refine Ev.bind (Ev.const (perBit_eq kind)) ?_
  rw [hQ, e1, bytesOf_bitStr]
  exact h
theorem readLevels_SI (kind : Int) (hk : kind = 0 ∨ kind = 1 ∨ kind = 4 ∨ kind = 5) (xs : List Int) (hn : xs.length ≤ 1099511627776) : ∀ (d n : Nat) (c : List Int) (last : Int), c.length ≤ n → n + d = xs.length →
    Ev (fun k => impl_readLevels.l0 k kind xs c last (n : Int)) (strOfNums (c ++ readS kind last (xs.drop n))) := by
  have hp : perN kind = ((1 : Nat) : Int) := by unfold perN; rw [if_neg (by omega)]; rfl
  have hq : pairB kind = false := decide_eq_false (by omega)
  intro d
  induction d with
  | zero =>
    intro n c last hc h
    have h1 : ¬ ((n : Int) < (xs.length : Int)) := by omega
    have h2 : xs.drop n = [] := List.drop_eq_nil_of_le (by omega)
    rw [h2]
    simp only [readS, List.append_nil]
    refine Ev.succ ?_
    simp only [impl_readLevels.l0, h1, if_false]; exact Ev.now _
  | succ d ih =>
    intro n c last hc h
    have h1 : (n : Int) < (xs.length : Int) := by omega
    have h2 : (0 : Int) ≤ (n : Int) := by omega
    rw [drop_rd (show n < xs.length by omega)]
    simp only [readS]
    have key : ∀ b : Bool, b = (if kind = 0 then rd xs (n : Int) == 1 else if kind = 4 then rd xs (n : Int) != 0 else rd xs (n : Int) != last) →
        Ev (fun k => impl_readLevels.l0 k kind xs (c ++ [bitN b]) (rd xs ((n + 1 - 1 : Nat) : Int)) ((n + 1 : Nat) : Int)) (strOfNums (c ++ bitN (if kind = 0 then rd xs (n : Int) == 1 else if kind = 4 then rd xs (n : Int) != 0 else rd xs (n : Int) != last) :: readS kind (rd xs (n : Int)) (xs.drop (n + 1)))) := by
      intro b hb
      have h3 := ih (n + 1) (c ++ [bitN b]) (rd xs (n : Int)) (by simp; omega) (by omega)
      rw [List.append_assoc] at h3
      rw [← hb]
      exact h3
    rcases hk with rfl | rfl | rfl | rfl
    · have k2 := key (rd xs (n : Int) == 1) (by rw [if_pos rfl])
      refine Ev.succ ?_
      simp only [impl_readLevels.l0]
      refine Ev.cond (fun _ => ?_) (fun h' => absurd h1 h')
      refine Ev.cond (fun _ => ?_) (fun h' => absurd h2 h')
      refine Ev.cond (fun _ => ?_) (fun h' => absurd (by decide) h')
      exact rl_tail hp (by omega) (by omega) (by omega) hn hc k2
    · have k2 := key (rd xs (n : Int) != last) (by rw [if_neg (by decide), if_neg (by decide)])
      refine Ev.succ ?_
      simp only [impl_readLevels.l0]
      refine Ev.cond (fun _ => ?_) (fun h' => absurd h1 h')
      refine Ev.cond (fun _ => ?_) (fun h' => absurd h2 h')
      refine Ev.cond (fun h' => absurd h' (by decide)) (fun _ => ?_)
      refine Ev.cond (fun _ => Ev.succ ?_) (fun h' => absurd (by decide) h')
      simp only [impl_readLevels.j1]
      refine Ev.cond (fun _ => ?_) (fun h' => absurd (by decide) h')
      exact rl_tail hp (by omega) (by omega) (by omega) hn hc k2
    · have k2 := key (rd xs (n : Int) != 0) (by rw [if_neg (by decide), if_pos rfl])
      refine Ev.succ ?_
      simp only [impl_readLevels.l0]
      refine Ev.cond (fun _ => ?_) (fun h' => absurd h1 h')
      refine Ev.cond (fun _ => ?_) (fun h' => absurd h2 h')
      refine Ev.cond (fun h' => absurd h' (by decide)) (fun _ => ?_)
      refine Ev.cond (fun h' => absurd h' (by decide)) (fun _ => Ev.succ ?_)
      simp only [impl_readLevels.j1]
      refine Ev.cond (fun h' => absurd h' (by decide)) (fun _ => ?_)
      refine Ev.cond (fun h' => absurd h' (by decide)) (fun _ => ?_)
      refine Ev.cond (fun h' => absurd h' (by decide)) (fun _ => ?_)
      refine Ev.cond (fun _ => ?_) (fun h' => absurd (by decide) h')
      exact rl_tail hp (by omega) (by omega) (by omega) hn hc k2
    · have k2 := key (rd xs (n : Int) != last) (by rw [if_neg (by decide), if_neg (by decide)])
      refine Ev.succ ?_
      simp only [impl_readLevels.l0]
      refine Ev.cond (fun _ => ?_) (fun h' => absurd h1 h')
      refine Ev.cond (fun _ => ?_) (fun h' => absurd h2 h')
      refine Ev.cond (fun h' => absurd h' (by decide)) (fun _ => ?_)
      refine Ev.cond (fun h' => absurd h' (by decide)) (fun _ => Ev.succ ?_)
      simp only [impl_readLevels.j1]
      refine Ev.cond (fun _ => ?_) (fun h' => absurd (by decide) h')
      exact rl_tail hp (by omega) (by omega) (by omega) hn hc k2
theorem readLevels_PI (kind : Int) (hk : kind = 2 ∨ kind = 3) (xs : List Int) (hn : xs.length ≤ 1099511627776) : ∀ (d n : Nat) (c : List Int) (last : Int), c.length ≤ n → n + 2 * d = xs.length →
    Ev (fun k => impl_readLevels.l0 k kind xs c last (n : Int)) (strOfNums (c ++ readP kind last (xs.drop n))) := by
  have hp : perN kind = ((2 : Nat) : Int) := by unfold perN; rw [if_pos hk]; rfl
  have hq : pairB kind = true := decide_eq_true hk
  intro d
  induction d with
  | zero =>
    intro n c last hc h
    have h1 : ¬ ((n : Int) < (xs.length : Int)) := by omega
    have h2 : xs.drop n = [] := List.drop_eq_nil_of_le (by omega)
    rw [h2]
    simp only [readP, List.append_nil]
    refine Ev.succ ?_
    simp only [impl_readLevels.l0, h1, if_false]; exact Ev.now _
  | succ d ih =>
    intro n c last hc h
    have h1 : (n : Int) < (xs.length : Int) := by omega
    have h2 : (0 : Int) ≤ (n : Int) := by omega
    have h3 : ((n + 1 : Nat) : Int) < (xs.length : Int) := by omega
    have h4 : (0 : Int) ≤ ((n + 1 : Nat) : Int) := by omega
    have h4' : ¬ ((n + 1 : Nat) : Int) = (xs.length : Int) := by omega
    have hw := w64_succ (show n < 9223372036854775807 by omega)
    have hw4 := w64_succ (show n + 1 < 9223372036854775807 by omega)
    rw [drop_two (show n + 1 < xs.length by omega)]
    simp only [readP]
    have tl : ∀ b : Bool, b = (if kind = 3 then rd xs (n : Int) == last else decide (rd xs (n : Int) < rd xs ((n + 1 : Nat) : Int))) →
        Ev (fun k => impl_readLevels.l0 k kind xs (c ++ [bitN b]) (rd xs ((n + 2 - 1 : Nat) : Int)) ((n + 2 : Nat) : Int)) (strOfNums (c ++ bitN (if kind = 3 then rd xs (n : Int) == last else decide (rd xs (n : Int) < rd xs ((n + 1 : Nat) : Int))) :: readP kind (rd xs ((n + 1 : Nat) : Int)) (xs.drop (n + 2)))) := by
      intro b hb
      have h9 := ih (n + 2) (c ++ [bitN b]) (rd xs ((n + 1 : Nat) : Int)) (by simp; omega) (by omega)
      rw [List.append_assoc] at h9
      rw [← hb]
      exact h9
    rcases hk with rfl | rfl
    · have k2 := tl (decide (rd xs (n : Int) < rd xs ((n + 1 : Nat) : Int))) (by rw [if_neg (by decide)])
      refine Ev.succ ?_
      simp only [impl_readLevels.l0]
      refine Ev.cond (fun _ => ?_) (fun h' => absurd h1 h')
      refine Ev.cond (fun _ => ?_) (fun h' => absurd h2 h')
      refine Ev.cond (fun h' => absurd h' (by decide)) (fun _ => ?_)
      refine Ev.cond (fun h' => absurd h' (by decide)) (fun _ => Ev.succ ?_)
      simp only [impl_readLevels.j1]
      refine Ev.cond (fun h' => absurd h' (by decide)) (fun _ => ?_)
      refine Ev.cond (fun _ => ?_) (fun h' => absurd (by decide) h')
      rw [hw]
      refine Ev.cond (fun _ => ?_) (fun h' => absurd h4 h')
      refine Ev.cond (fun _ => ?_) (fun h' => absurd h3 h')
      exact rl_tail hp (by omega) (by omega) (by omega) hn hc k2
    · have k2 := tl (rd xs (n : Int) == last) (by rw [if_pos rfl])
      refine Ev.succ ?_
      simp only [impl_readLevels.l0]
      refine Ev.cond (fun _ => ?_) (fun h' => absurd h1 h')
      refine Ev.cond (fun _ => ?_) (fun h' => absurd h2 h')
      refine Ev.cond (fun h' => absurd h' (by decide)) (fun _ => ?_)
      refine Ev.cond (fun h' => absurd h' (by decide)) (fun _ => Ev.succ ?_)
      simp only [impl_readLevels.j1]
      refine Ev.cond (fun h' => absurd h' (by decide)) (fun _ => ?_)
      refine Ev.cond (fun h' => absurd h' (by decide)) (fun _ => ?_)
      refine Ev.cond (fun _ => ?_) (fun h' => absurd (by decide) h')
      exact rl_tail hp (by omega) (by omega) (by omega) hn hc k2
theorem readLevels_impl (kind : Int) (hk : kindB kind = true) (xs : List Int) (hn : xs.length ≤ 1099511627776) (hp : pairB kind = true → xs.length % 2 = 0) :
    Ev (fun k => impl_readLevels.f k kind xs) (strOfNums (readN kind xs)) := by
  unfold impl_readLevels.f readN
  have hk' := kinds_of hk
  have fin : Ev (fun k => impl_readLevels.l0 k kind xs [] (beforeN kind) 0) (strOfNums (if kind = 2 ∨ kind = 3 then readP kind (beforeN kind) xs else readS kind (beforeN kind) xs)) := by
    by_cases h : kind = 2 ∨ kind = 3
    · have h' := hp (decide_eq_true h)
      rw [if_pos h]
      exact readLevels_PI kind h xs hn (xs.length / 2) 0 [] (beforeN kind) (by simp) (by omega)
    · rw [if_neg h]
      exact readLevels_SI kind (by omega) xs hn xs.length 0 [] (beforeN kind) (by simp) (by omega)
  exact Ev.bind (Ev.const (newWire_eq kind)) fin

/-! RdLI -/
def RdI_ans (kind : Int) (xs : List Int) : ByteArray × Bool := if canB kind xs = true then (strOfNums (readN kind xs), true) else (⟨#[]⟩, false)
theorem RdI_impl (kind : Int) (xs : List Int) (hn : xs.length ≤ 1099511627776) : Ev (fun k => impl_ReadLevels.f k kind xs) (RdI_ans kind xs) := by
  unfold impl_ReadLevels.f RdI_ans
  refine Ev.bind (canRead_ev kind xs hn) ?_
  by_cases h : canB kind xs = true
  · obtain ⟨h1, h2, h3⟩ := canB_pair h
    refine Ev.cond (fun _ => ?_) (fun h' => absurd h h')
    rw [if_pos h]
    exact Ev.bind (readLevels_impl kind h1 xs hn h3) (Ev.now _)
  · refine Ev.cond (fun h' => absurd h' h) (fun _ => ?_)
    rw [if_neg h]
    exact Ev.now _

/-! readLen -/
theorem readS_len (kind : Int) : ∀ (xs : List Int) (last : Int), (readS kind last xs).length = xs.length := by
  intro xs
  induction xs with
  | nil => intro last; rfl
  | cons x xs ih => intro last; simp only [readS, List.length_cons, ih]
theorem readP_len (kind : Int) : ∀ (n : Nat) (xs : List Int) (last : Int), xs.length = 2 * n → (readP kind last xs).length = n := by
  intro n
  induction n with
  | zero =>
    intro xs last h
    obtain rfl : xs = [] := List.eq_nil_of_length_eq_zero (by omega)
    rfl
  | succ n ih =>
    intro xs last h
    match xs, h with
    | x :: y :: r, h =>
      simp only [List.length_cons] at h
      simp only [readP, List.length_cons, ih r y (by omega)]
theorem readN_len {kind : Int} {xs : List Int} {n : Nat} (h : xs.length = (if kind = 2 ∨ kind = 3 then 2 else 1) * n) : (readN kind xs).length = n := by
  unfold readN
  by_cases hp : kind = 2 ∨ kind = 3
  · rw [if_pos hp] at h ⊢
    exact readP_len kind n xs _ h
  · rw [if_neg hp] at h ⊢
    rw [readS_len, h, Nat.one_mul]

/-! TurnI -/
theorem TL_impl (xs : List Int) (hn : xs.length ≤ 1099511627776) : ∀ d n, n + d = xs.length → Ev (fun k => impl_TurnLevels.l0 k ((xs.take n).map fun x => wrap64 (-x)) xs (xs.length : Int) (n : Int)) (xs.map fun x => wrap64 (-x), true) := by
  intro d
  induction d with
  | zero =>
    intro n h
    apply Ev.succ
    have h1 : ¬ ((n : Int) < (xs.length : Int)) := by omega
    have h2 : xs.take n = xs := List.take_of_length_le (by omega)
    simp only [impl_TurnLevels.l0, h1, if_false, h2]
    exact Ev.now _
  | succ d ih =>
    intro n h
    apply Ev.succ
    have h1 : (n : Int) < (xs.length : Int) := by omega
    have h2 : (0 : Int) ≤ (n : Int) := by omega
    have h3 := ih (n + 1) (by omega)
    have h4 : ((xs.take n).map fun x => wrap64 (-x)).length < 17592186044416 := by rw [List.length_map, List.length_take]; omega
    rw [take_rd (show n < xs.length by omega), List.map_append] at h3
    simp only [impl_TurnLevels.l0, h1, h2, h4, if_true, w64_succ (show n < 9223372036854775807 by omega)]
    exact h3
def TL_ans (xs : List Int) : List Int × Bool := if levelsB xs = true then (xs.map fun x => wrap64 (-x), true) else ([], false)
theorem TL_impl_ev (xs : List Int) (hn : xs.length ≤ 1099511627776) : Ev (fun k => impl_TurnLevels.f k xs) (TL_ans xs) := by
  unfold impl_TurnLevels.f TL_ans
  refine Ev.bind (areLevels_ev xs hn) (Ev.ite (fun _ => ?_) (fun _ => Ev.now _))
  have h := TL_impl xs hn xs.length 0 (by omega)
  exact h
theorem TL_len (xs : List Int) (hn : xs.length ≤ 1099511627776) : (TL_ans xs).1.length ≤ 1099511627776 := by
  unfold TL_ans
  split
  · simpa using hn
  · simp

/-! r8 -/
theorem wf_u8 {x : Int} (h : (Lit.int .u8 x).wf = true) : 0 ≤ x ∧ x ≤ 255 := by
  have h1 : decide (IntKind.min .u8 ≤ x) = true ∧ decide (x ≤ IntKind.max .u8) = true := by
    simpa [Lit.wf] using h
  obtain ⟨ha, hb⟩ := h1
  have ha := of_decide_eq_true ha
  have hb := of_decide_eq_true hb
  have e1 : IntKind.min .u8 = 0 := by decide
  have e2 : IntKind.max .u8 = 255 := by decide
  rw [e1] at ha
  rw [e2] at hb
  exact ⟨ha, hb⟩
theorem r8At_eq (l : List Int) (h : ∀ x ∈ l, (Lit.int .u8 x).wf = true) (a n : Int) (ha : 0 ≤ a) (hn : 1 ≤ n) : ∃ t, laws_r8At.f l a n = some t ∧ 0 ≤ t ∧ t < n := by
  unfold laws_r8At.f
  by_cases h1 : n ≤ 1
  · exact ⟨0, by rw [if_pos h1], by omega, by omega⟩
  by_cases h2 : a ≥ (l.length : Int)
  · exact ⟨0, by rw [if_neg h1, if_pos h2], by omega, by omega⟩
  obtain ⟨m, rfl⟩ := Int.eq_ofNat_of_zero_le ha
  have hm : m < l.length := by omega
  have hx := wf_u8 (h _ (rd_mem hm))
  have h0 : 0 ≤ Int.tmod (rd l (m : Int)) n := Int.tmod_nonneg _ hx.1
  have h3 : Int.tmod (rd l (m : Int)) n < n := Int.tmod_lt_of_pos _ (by omega)
  refine ⟨Int.tmod (rd l (m : Int)) n, ?_, h0, h3⟩
  rw [if_neg h1, if_neg h2, if_pos (by omega), if_pos (by omega), if_neg (by omega), w64 (by omega) (by omega)]
theorem r8Long_eq (l m : List Int) : ∃ b, laws_r8Long.f l m = some b ∧ (b = false → l.length ≤ 48 ∧ m.length ≤ 48) := by
  unfold laws_r8Long.f
  by_cases h : (l.length : Int) > 48
  · exact ⟨true, by rw [if_pos h], by simp⟩
  · refine ⟨decide ((m.length : Int) > 48), by rw [if_neg h], fun h2 => ?_⟩
    have h3 := of_decide_eq_false h2
    omega

/-! src -/
theorem u64_mod (z : Int) : IntKind.u64.wrap z = z % 18446744073709551616 := by simp [IntKind.wrap, IntKind.bits, IntKind.signed]
theorem u64_and255 (z : Int) : 0 ≤ wrap64 (Go.bits .and .u64 ((IntKind.u64.wrap z) / 1099511627776) 255) ∧ wrap64 (Go.bits .and .u64 ((IntKind.u64.wrap z) / 1099511627776) 255) ≤ 255 := by
  obtain ⟨Y, hY⟩ := Int.eq_ofNat_of_zero_le (show 0 ≤ (IntKind.u64.wrap z) / 1099511627776 by rw [u64_mod]; omega)
  have hlt : Y < 18446744073709551616 := by rw [u64_mod] at hY; omega
  rw [hY]
  have h2 : Go.bits .and .u64 (Y : Int) 255 = ((Y &&& 255 : Nat) : Int) := bits_and_u64_nat Y 255 hlt (by decide)
  rw [h2]
  have h3 : Y &&& 255 ≤ 255 := Nat.and_le_right
  rw [w64 (by omega) (by omega)]
  omega
theorem src_next (l : List Int) (h : ∀ x ∈ l, (Lit.int .u8 x).wf = true) (p : Nat) (hs : Int) (hp : p < 1099511627776) : ∃ v hs', spec_l00Src_next.f l (p : Int) hs = some (v, ((p + 1 : Nat) : Int), hs') ∧ 0 ≤ v ∧ v ≤ 255 := by
  have hw : wrap64 ((p : Int) + 1) = ((p + 1 : Nat) : Int) := w64_succ (by omega)
  unfold spec_l00Src_next.f
  by_cases h1 : p < l.length
  · have hx := wf_u8 (h _ (rd_mem h1))
    rw [if_pos (show (p : Int) < (l.length : Int) by omega), if_pos (show (0 : Int) ≤ (p : Int) by omega), hw, if_pos (show ((p + 1 : Nat) : Int) ≤ (l.length : Int) by omega)]
    refine ⟨_, _, rfl, ?_⟩
    rw [w64 (by omega) (by omega)]
    exact hx
  · rw [if_neg (show ¬ (p : Int) < (l.length : Int) by omega), hw, if_neg (show ¬ ((p + 1 : Nat) : Int) ≤ (l.length : Int) by omega)]
    exact ⟨_, _, rfl, u64_and255 _⟩
theorem src_pick (l : List Int) (h : ∀ x ∈ l, (Lit.int .u8 x).wf = true) (p : Nat) (hs a : Int) (hp : p < 1099511627776) (ha : 2 ≤ a) (ha2 : a ≤ 200) : ∃ v hs', spec_l00Src_pick.f l (p : Int) hs a = some (v, ((p + 1 : Nat) : Int), hs') ∧ 0 ≤ v ∧ v < a := by
  obtain ⟨v, hs', h1, h2, h3⟩ := src_next l h p hs hp
  unfold spec_l00Src_pick.f
  rw [if_neg (by omega), h1, Option.bind_some, if_neg (by omega), if_neg (by omega)]
  exact ⟨_, _, rfl, Int.tmod_nonneg _ h2, Int.tmod_lt_of_pos _ (by omega)⟩

/-! strs -/
theorem str_size (l : List Int) : (strOfNums l).size = l.length := by
  show (strOfNums l).data.size = _
  simp [strOfNums]
theorem bt_str {xs : List Int} {k : Nat} (hk : k < xs.length) (h : 0 ≤ xs[k] ∧ xs[k] ≤ 255) : bt (strOfNums xs) (k : Int) = xs[k] := by
  have hk' : k < (strOfNums xs).size := by rw [str_size]; exact hk
  rw [bt_nat _ _ hk']
  have e : (strOfNums xs)[k]'hk' = UInt8.ofNat (xs[k]).toNat := by
    show (strOfNums xs).data[k]'_ = _
    simp [strOfNums]
  rw [e, UInt8.toNat_ofNat']
  omega
theorem all_bits_iff (s : ByteArray) : s.data.toList.all isBitB = true ↔ ∀ k : Nat, k < s.size → (bt s (k : Int) = 48 ∨ bt s (k : Int) = 49) := by
  rw [List.all_eq_true]
  constructor
  · intro h k hk
    rw [bt_nat s k hk]
    refine (isBit_iff _).1 (h _ ?_)
    rw [← data_get hk]; exact List.getElem_mem _
  · intro h b hb
    obtain ⟨k, hk, rfl⟩ := List.mem_iff_getElem.1 hb
    have hk' : k < s.size := by rw [← size_data]; exact hk
    rw [isBit_iff, data_get hk', ← bt_nat s k hk']
    exact h k hk'
theorem str_ext {s t : ByteArray} (h : s.size = t.size) (h2 : ∀ k : Nat, k < s.size → bt s (k : Int) = bt t (k : Int)) : s = t := by
  apply ByteArray.ext
  apply Array.ext
  · exact h
  · intro k h3 h4
    have e := h2 k h3
    rw [bt_nat s k h3, bt_nat t k h4] at e
    exact UInt8.toNat_inj.1 (by exact_mod_cast e)

/-! R8Bits -/
theorem src_one (l : List Int) (h : ∀ x ∈ l, (Lit.int .u8 x).wf = true) (p : Nat) (hs : Int) (hp : p < 1099511627776) : ∃ b hs', spec_l00Src_one.f l (p : Int) hs 2 = some (b, ((p + 1 : Nat) : Int), hs') := by
  obtain ⟨v, hs', h1, h2, h3⟩ := src_pick l h p hs 2 hp (by omega) (by omega)
  unfold spec_l00Src_one.f
  rw [h1, Option.bind_some]
  exact ⟨_, _, rfl⟩
theorem R8Bits_l0 (l : List Int) (h : ∀ x ∈ l, (Lit.int .u8 x).wf = true) : ∀ (d : Nat) (xs : List Int) (p : Nat) (hs : Int), p + 2 * d ≤ 1000000 → xs.length + d ≤ 1000 → (∀ x ∈ xs, x = 48 ∨ x = 49) →
    ∃ ys, Ev (fun k => spec_R8Bits.l0 k xs (d : Int) l (p : Int) hs) (strOfNums ys) ∧ ys.length = xs.length + d ∧ ∀ x ∈ ys, x = 48 ∨ x = 49 := by
  intro d
  induction d with
  | zero =>
    intro xs p hs h1 h2 hx
    have c1 : ¬ ((0 : Nat) : Int) > 0 := by omega
    refine ⟨xs, Ev.succ ?_, rfl, hx⟩
    simp only [spec_R8Bits.l0]
    refine Ev.cond (fun h' => absurd h' c1) (fun _ => Ev.now _)
  | succ d ih =>
    intro xs p hs h1 h2 hx
    have c1 : ((d + 1 : Nat) : Int) > 0 := by omega
    have c2 : xs.length < 140737488355328 := by omega
    have hw : wrap64 (((d + 1 : Nat) : Int) - 1) = (d : Int) := by rw [w64 (by omega) (by omega)]; omega
    obtain ⟨v, hs1, e1, v0, v1⟩ := src_pick l h p hs 2 (by omega) (by omega) (by omega)
    obtain ⟨b, hs2, e2⟩ := src_one l h (p + 1) hs1 (by omega)
    have hv : (wrap64 (48 + v)) % 256 = 48 ∨ (wrap64 (48 + v)) % 256 = 49 := by
      rw [w64 (by omega) (by omega)]; omega
    have app : ∀ y : Int, (y = 48 ∨ y = 49) → ∀ x ∈ xs ++ [y], x = 48 ∨ x = 49 := by
      intro y hy x hm
      rcases List.mem_append.1 hm with hm | hm
      · exact hx x hm
      · rw [List.mem_singleton] at hm; rw [hm]; exact hy
    by_cases h0 : (xs.length : Int) > 0
    · have hlast : wrap64 ((xs.length : Int) - 1) = ((xs.length - 1 : Nat) : Int) := by rw [w64 (by omega) (by omega)]; omega
      have c3 : (0 : Int) ≤ ((xs.length - 1 : Nat) : Int) := by omega
      have c4 : ((xs.length - 1 : Nat) : Int) < (xs.length : Int) := by omega
      by_cases hb : b = true
      · have hr : rd xs ((xs.length - 1 : Nat) : Int) = 48 ∨ rd xs ((xs.length - 1 : Nat) : Int) = 49 := hx _ (rd_mem (by omega))
        obtain ⟨ys, y1, y2, y3⟩ := ih (xs ++ [rd xs ((xs.length - 1 : Nat) : Int)]) (p + 2) hs2 (by omega) (by rw [List.length_append, List.length_singleton]; omega) (app _ hr)
        refine ⟨ys, Ev.succ ?_, by rw [y2, List.length_append, List.length_singleton]; omega, y3⟩
        simp only [spec_R8Bits.l0, hw, hlast]
        refine Ev.cond (fun _ => ?_) (fun h' => absurd c1 h')
        refine Ev.bind (Ev.const e1) ?_
        refine Ev.cond (fun _ => ?_) (fun h' => absurd h0 h')
        refine Ev.bind (Ev.const e2) ?_
        refine Ev.cond (fun _ => ?_) (fun h' => absurd hb h')
        refine Ev.cond (fun _ => ?_) (fun h' => absurd c3 h')
        refine Ev.cond (fun _ => ?_) (fun h' => absurd c4 h')
        exact Ev.cond (fun _ => y1) (fun h' => absurd c2 h')
      · obtain ⟨ys, y1, y2, y3⟩ := ih (xs ++ [(wrap64 (48 + v)) % 256]) (p + 2) hs2 (by omega) (by rw [List.length_append, List.length_singleton]; omega) (app _ hv)
        refine ⟨ys, Ev.succ ?_, by rw [y2, List.length_append, List.length_singleton]; omega, y3⟩
        simp only [spec_R8Bits.l0, hw, hlast]
        refine Ev.cond (fun _ => ?_) (fun h' => absurd c1 h')
        refine Ev.bind (Ev.const e1) ?_
        refine Ev.cond (fun _ => ?_) (fun h' => absurd h0 h')
        refine Ev.bind (Ev.const e2) ?_
        refine Ev.cond (fun h' => absurd h' hb) (fun _ => ?_)
        exact Ev.cond (fun _ => y1) (fun h' => absurd c2 h')
    · obtain ⟨ys, y1, y2, y3⟩ := ih (xs ++ [(wrap64 (48 + v)) % 256]) (p + 1) hs1 (by omega) (by rw [List.length_append, List.length_singleton]; omega) (app _ hv)
      refine ⟨ys, Ev.succ ?_, by rw [y2, List.length_append, List.length_singleton]; omega, y3⟩
      simp only [spec_R8Bits.l0, hw]
      refine Ev.cond (fun _ => ?_) (fun h' => absurd c1 h')
      refine Ev.bind (Ev.const e1) ?_
      refine Ev.cond (fun h' => absurd h' h0) (fun _ => ?_)
      exact Ev.cond (fun _ => y1) (fun h' => absurd c2 h')
theorem str_bits {ys : List Int} (h : ∀ x ∈ ys, x = 48 ∨ x = 49) : (strOfNums ys).data.toList.all isBitB = true := by
  rw [List.all_eq_true]
  intro b hb
  have e : (strOfNums ys).data.toList = ys.map fun n => UInt8.ofNat n.toNat := by simp [strOfNums]
  rw [e, List.mem_map] at hb
  obtain ⟨x, hx, rfl⟩ := hb
  rcases h x hx with rfl | rfl <;> decide
theorem R8Bits_ev (l : List Int) (h : ∀ x ∈ l, (Lit.int .u8 x).wf = true) (n : Nat) (hn1 : 1 ≤ n) (hn : n ≤ 100) : ∃ s : ByteArray, Ev (fun k => spec_R8Bits.f k l (n : Int)) s ∧ s.size ≤ n ∧ s.data.toList.all isBitB = true := by
  have hw : wrap64 ((n : Int) + 1) = (n : Int) + 1 := w64 (by omega) (by omega)
  obtain ⟨v, hs, e1, v0, v1⟩ := src_pick l h 0 0 ((n : Int) + 1) (by omega) (by omega) (by omega)
  obtain ⟨v, rfl⟩ := Int.eq_ofNat_of_zero_le v0
  obtain ⟨ys, y1, y2, y3⟩ := R8Bits_l0 l h v [] 1 hs (by omega) (by simp; omega) (by simp)
  refine ⟨strOfNums ys, ?_, by rw [str_size, y2, List.length_nil]; omega, str_bits y3⟩
  unfold spec_R8Bits.f spec_l00From.f
  refine Ev.bind (Ev.const rfl) ?_
  rw [hw]
  exact Ev.bind (Ev.const e1) y1

/-! r8Nums -/
theorem r8Nums_l0 (xs : List Int) (hn : xs.length ≤ 1099511627776) : ∀ d n, n + d = xs.length → Ev (fun k => laws_r8Nums.l0 k xs xs (n : Int)) true := by
  intro d
  induction d with
  | zero =>
    intro n h
    have h1 : ¬ ((n : Int) < (xs.length : Int)) := by omega
    apply Ev.succ
    simp only [laws_r8Nums.l0]
    exact Ev.cond (fun h' => absurd h' h1) (fun _ => Ev.now _)
  | succ d ih =>
    intro n h
    have h1 : (n : Int) < (xs.length : Int) := by omega
    have h2 : (0 : Int) ≤ (n : Int) := by omega
    have h3 := ih (n + 1) (by omega)
    apply Ev.succ
    simp only [laws_r8Nums.l0, w64_succ (show n < 9223372036854775807 by omega)]
    refine Ev.cond (fun _ => ?_) (fun h' => absurd h1 h')
    refine Ev.cond (fun _ => ?_) (fun h' => absurd h2 h')
    refine Ev.cond (fun _ => ?_) (fun h' => absurd h1 h')
    exact Ev.cond (fun _ => h3) (fun h' => absurd trivial h')
theorem r8Nums_same (xs : List Int) (hn : xs.length ≤ 1099511627776) : Ev (fun k => laws_r8Nums.f k xs xs) true := by
  unfold laws_r8Nums.f
  exact Ev.cond (fun _ => r8Nums_l0 xs hn xs.length 0 (by omega)) (fun h' => absurd rfl h')

def ngL (xs : List Int) : List Int := xs.map fun x => wrap64 (-x)
theorem ng_small {x : Int} (h : -1 ≤ x ∧ x ≤ 1) : wrap64 (-x) = -x := w64 (by omega) (by omega)
theorem ngL_in {xs : List Int} (h : ∀ x ∈ xs, -1 ≤ x ∧ x ≤ 1) : ∀ x ∈ ngL xs, -1 ≤ x ∧ x ≤ 1 := by
  intro y hy
  obtain ⟨x, hx, rfl⟩ := List.mem_map.1 hy
  have := h x hx
  rw [ng_small this]; omega
theorem ngL_ngL {xs : List Int} (h : ∀ x ∈ xs, -1 ≤ x ∧ x ≤ 1) : ngL (ngL xs) = xs := by
  unfold ngL
  rw [List.map_map]
  have e : ∀ x ∈ xs, ((fun x => wrap64 (-x)) ∘ fun x => wrap64 (-x)) x = id x := by
    intro x hx
    have hb := h x hx
    show wrap64 (-(wrap64 (-x))) = x
    rw [ng_small hb, w64 (by omega) (by omega)]; omega
  rw [List.map_congr_left e, List.map_id]
/-- The texts of bits, and of the opposite ones. -/
def sameL (l : List UInt8) : List Int := l.map fun c => bitN (c == 49)
def flipL (l : List UInt8) : List Int := l.map fun c => bitN (!(c == 49))
theorem TL_r0 (l : List UInt8) : ∀ (last s : Int), readS 0 last (ngL (lvGo 0 s l)) = flipL l := by
  induction l with
  | nil => intro last s; rfl
  | cons c l ih =>
    intro last s
    have e : ngL (lvGo 0 s (c :: l)) = (if (c == 49) = true then -1 else 1) :: ngL (lvGo 0 (lvNext 0 s (c == 49)) l) := by
      rw [lvGo]
      generalize (c == 49) = b
      cases b <;> simp [ngL, lvOut, wrap64]
    rw [e, readS, ih]
    unfold flipL
    rw [List.map_cons]
    congr 1
    generalize (c == 49) = b
    cases b <;> simp
theorem TL_r2 (l : List UInt8) : ∀ (last s : Int), readP 2 last (ngL (lvGo 2 s l)) = flipL l := by
  induction l with
  | nil => intro last s; rfl
  | cons c l ih =>
    intro last s
    have e : ngL (lvGo 2 s (c :: l)) = (if (c == 49) = true then 1 else -1) :: (if (c == 49) = true then -1 else 1) :: ngL (lvGo 2 (lvNext 2 s (c == 49)) l) := by
      rw [lvGo]
      generalize (c == 49) = b
      cases b <;> simp [ngL, lvOut, wrap64]
    rw [e, readP, ih]
    unfold flipL
    rw [List.map_cons]
    congr 1
    generalize (c == 49) = b
    cases b <;> simp
theorem TL_r4 (l : List UInt8) : ∀ (last s : Int), (s = 1 ∨ s = -1) → readS 4 last (ngL (lvGo 4 s l)) = sameL l := by
  induction l with
  | nil => intro last s _; rfl
  | cons c l ih =>
    intro last s hs
    have hn : lvNext 4 s (c == 49) = 1 ∨ lvNext 4 s (c == 49) = -1 := by
      rcases hs with rfl | rfl <;> generalize (c == 49) = b <;> cases b <;> simp [lvNext]
    have e : ngL (lvGo 4 s (c :: l)) = (if (c == 49) = true then -s else 0) :: ngL (lvGo 4 (lvNext 4 s (c == 49)) l) := by
      rw [lvGo]
      generalize (c == 49) = b
      rcases hs with rfl | rfl <;> cases b <;> simp [ngL, lvOut, wrap64]
    rw [e, readS, ih _ _ hn]
    unfold sameL
    rw [List.map_cons]
    congr 1
    generalize (c == 49) = b
    rcases hs with rfl | rfl <;> cases b <;> simp [lvNext]
theorem TL_r1 (l : List UInt8) : ∀ (s : Int), (s = 1 ∨ s = -1) → readS 1 (-s) (ngL (lvGo 1 s l)) = sameL l := by
  induction l with
  | nil => intro s _; rfl
  | cons c l ih =>
    intro s hs
    have hn : lvNext 1 s (c == 49) = 1 ∨ lvNext 1 s (c == 49) = -1 := by
      rcases hs with rfl | rfl <;> generalize (c == 49) = b <;> cases b <;> simp [lvNext]
    have e : ngL (lvGo 1 s (c :: l)) = -(lvNext 1 s (c == 49)) :: ngL (lvGo 1 (lvNext 1 s (c == 49)) l) := by
      rw [lvGo]
      generalize (c == 49) = b
      rcases hs with rfl | rfl <;> cases b <;> simp [ngL, lvOut, lvNext, wrap64]
    rw [e, readS, ih _ hn]
    unfold sameL
    rw [List.map_cons]
    congr 1
    generalize (c == 49) = b
    rcases hs with rfl | rfl <;> cases b <;> simp [lvNext]
theorem TL_r3 (l : List UInt8) : ∀ (s : Int), (s = 1 ∨ s = -1) → readP 3 (-s) (ngL (lvGo 3 s l)) = sameL l := by
  induction l with
  | nil => intro s _; rfl
  | cons c l ih =>
    intro s hs
    have hn : lvNext 3 s (c == 49) = 1 ∨ lvNext 3 s (c == 49) = -1 := by
      rcases hs with rfl | rfl <;> generalize (c == 49) = b <;> cases b <;> simp [lvNext]
    have e : ngL (lvGo 3 s (c :: l)) = (if (c == 49) = true then -s else s) :: -(lvNext 3 s (c == 49)) :: ngL (lvGo 3 (lvNext 3 s (c == 49)) l) := by
      rw [lvGo]
      generalize (c == 49) = b
      rcases hs with rfl | rfl <;> cases b <;> simp [ngL, lvOut, lvNext, wrap64]
    rw [e, readP, ih _ hn]
    unfold sameL
    rw [List.map_cons]
    congr 1
    generalize (c == 49) = b
    rcases hs with rfl | rfl <;> cases b <;> simp [lvNext]
theorem TL_r5 (l : List UInt8) : ∀ (s : Int), (s = 0 ∨ s = 1 ∨ s = 2 ∨ s = 3) → readS 5 (-(circ s)) (ngL (lvGo 5 s l)) = sameL l := by
  induction l with
  | nil => intro s _; rfl
  | cons c l ih =>
    intro s hs
    have hn : lvNext 5 s (c == 49) = 0 ∨ lvNext 5 s (c == 49) = 1 ∨ lvNext 5 s (c == 49) = 2 ∨ lvNext 5 s (c == 49) = 3 := by
      rcases hs with rfl | rfl | rfl | rfl <;> generalize (c == 49) = b <;> cases b <;> simp [lvNext]
    have e : ngL (lvGo 5 s (c :: l)) = -(circ (lvNext 5 s (c == 49))) :: ngL (lvGo 5 (lvNext 5 s (c == 49)) l) := by
      rw [lvGo]
      generalize (c == 49) = b
      rcases hs with rfl | rfl | rfl | rfl <;> cases b <;> simp [ngL, lvOut, lvNext, circ, wrap64]
    rw [e, readS, ih _ hn]
    unfold sameL
    rw [List.map_cons]
    congr 1
    generalize (c == 49) = b
    rcases hs with rfl | rfl | rfl | rfl <;> cases b <;> simp [circ, lvNext]
theorem TL_first (l : List UInt8) (c : UInt8) : (∃ h, readS 1 (-1) (ngL (lvGo 1 (-1) (c :: l))) = h :: sameL l) ∧ (∃ h, readP 3 (-1) (ngL (lvGo 3 (-1) (c :: l))) = h :: sameL l) := by
  constructor
  · have hn : lvNext 1 (-1) (c == 49) = 1 ∨ lvNext 1 (-1) (c == 49) = -1 := by
      generalize (c == 49) = b; cases b <;> simp [lvNext]
    have e : ngL (lvGo 1 (-1) (c :: l)) = -(lvNext 1 (-1) (c == 49)) :: ngL (lvGo 1 (lvNext 1 (-1) (c == 49)) l) := by
      rw [lvGo]
      generalize (c == 49) = b
      cases b <;> simp [ngL, lvOut, lvNext, wrap64]
    rw [e, readS, TL_r1 l _ hn]
    exact ⟨_, rfl⟩
  · have hn : lvNext 3 (-1) (c == 49) = 1 ∨ lvNext 3 (-1) (c == 49) = -1 := by
      generalize (c == 49) = b; cases b <;> simp [lvNext]
    have e : ngL (lvGo 3 (-1) (c :: l)) = (if (c == 49) = true then 1 else -1) :: -(lvNext 3 (-1) (c == 49)) :: ngL (lvGo 3 (lvNext 3 (-1) (c == 49)) l) := by
      rw [lvGo]
      generalize (c == 49) = b
      cases b <;> simp [ngL, lvOut, lvNext, wrap64]
    rw [e, readP, TL_r3 l _ hn]
    exact ⟨_, rfl⟩
theorem TL_read (kind : Int) (hk : kindB kind = true) (l : List UInt8) :
    ((kind = 0 ∨ kind = 2) → readN kind (ngL (levelsN kind l)) = flipL l) ∧
    (¬ (kind = 0 ∨ kind = 2) → ∀ c r, l = c :: r → ∃ h, readN kind (ngL (levelsN kind l)) = h :: sameL r) := by
  have tl : ∀ (xs : List Int) (c : UInt8) (r : List UInt8), xs = sameL (c :: r) → ∃ h, xs = h :: sameL r := fun xs c r h => ⟨_, h⟩
  rcases kinds_of hk with rfl | rfl | rfl | rfl | rfl | rfl
  · refine ⟨fun _ => TL_r0 l _ _, fun h => absurd (.inl rfl) h⟩
  · refine ⟨fun h => absurd h (by decide), fun _ c r e => ?_⟩
    subst e
    exact (TL_first r c).1
  · refine ⟨fun _ => TL_r2 l _ _, fun h => absurd (.inr rfl) h⟩
  · refine ⟨fun h => absurd h (by decide), fun _ c r e => ?_⟩
    subst e
    exact (TL_first r c).2
  · refine ⟨fun h => absurd h (by decide), fun _ c r e => ?_⟩
    subst e
    exact tl _ c r (TL_r4 (c :: r) _ _ (.inl rfl))
  · refine ⟨fun h => absurd h (by decide), fun _ c r e => ?_⟩
    subst e
    exact tl _ c r (TL_r5 (c :: r) 0 (.inl rfl))
theorem bitN_range (b : Bool) : 0 ≤ bitN b ∧ bitN b ≤ 255 := by cases b <;> decide
theorem bit_val {c : UInt8} (h : isBitB c = true) : bitN (c == 49) = (c.toNat : Int) ∧ bitN (!(c == 49)) ≠ (c.toNat : Int) := by
  rcases (isBit_iff c).1 h with e | e
  · have : c = 48 := UInt8.toNat_inj.1 (by show c.toNat = 48; omega)
    subst this; decide
  · have : c = 49 := UInt8.toNat_inj.1 (by show c.toNat = 49; omega)
    subst this; decide
theorem TL_loop (kind : Int) (t T : ByteArray) (hT : T.size = t.size) (ht : t.size ≤ 400)
    (h1 : (kind = 0 ∨ kind = 2) → ∀ i : Nat, i < t.size → bt T (i : Int) ≠ bt t (i : Int))
    (h2 : ¬ (kind = 0 ∨ kind = 2) → ∀ i : Nat, 1 ≤ i → i < t.size → bt T (i : Int) = bt t (i : Int)) :
    ∀ (d n : Nat), n + d = t.size → Ev (fun k => laws_FnTurnedLevels.l0 k kind t T (n : Int)) true := by
  intro d
  induction d with
  | zero =>
    intro n h
    have c1 : ¬ (n : Int) < (t.size : Int) := by omega
    apply Ev.succ
    simp only [laws_FnTurnedLevels.l0]
    exact Ev.cond (fun h' => absurd h' c1) (fun _ => Ev.now _)
  | succ d ih =>
    intro n h
    have c1 : (n : Int) < (t.size : Int) := by omega
    have c2 : (0 : Int) ≤ (n : Int) := by omega
    have c3 : (n : Int) < (T.size : Int) := by omega
    have hw := w64_succ (show n < 9223372036854775807 by omega)
    have h3 := ih (n + 1) (by omega)
    have yes : (kind = 0 ∨ kind = 2) → Ev (fun k => laws_FnTurnedLevels.j2 k kind t T (n : Int) true) true := by
      intro hk
      apply Ev.succ
      simp only [laws_FnTurnedLevels.j2, hw]
      refine Ev.cond (fun _ => ?_) (fun h' => absurd (by trivial) h')
      refine Ev.cond (fun _ => ?_) (fun h' => absurd c2 h')
      refine Ev.cond (fun _ => ?_) (fun h' => absurd c3 h')
      refine Ev.cond (fun _ => ?_) (fun h' => absurd c1 h')
      exact Ev.cond (fun h' => absurd h' (h1 hk n (by omega))) (fun _ => h3)
    have no : ¬ (kind = 0 ∨ kind = 2) → Ev (fun k => laws_FnTurnedLevels.j2 k kind t T (n : Int) false) true := by
      intro hk
      apply Ev.succ
      simp only [laws_FnTurnedLevels.j2, hw]
      refine Ev.cond (fun h' => absurd h' (by decide)) (fun _ => ?_)
      refine Ev.cond (fun hpos => ?_) (fun _ => h3)
      refine Ev.cond (fun _ => ?_) (fun h' => absurd c2 h')
      refine Ev.cond (fun _ => ?_) (fun h' => absurd c3 h')
      refine Ev.cond (fun _ => ?_) (fun h' => absurd c1 h')
      exact Ev.cond (fun _ => h3) (fun h' => absurd (h2 hk n (by omega) (by omega)) h')
    apply Ev.succ
    simp only [laws_FnTurnedLevels.l0]
    refine Ev.cond (fun _ => ?_) (fun h' => absurd c1 h')
    by_cases k0 : kind = 0
    · exact Ev.cond (fun _ => yes (.inl k0)) (fun h' => absurd k0 h')
    · refine Ev.cond (fun h' => absurd h' k0) (fun _ => ?_)
      by_cases k2 : kind = 2
      · rw [beq_iff_eq.2 k2]; exact yes (.inr k2)
      · rw [beq_eq_false_iff_ne.2 k2]; exact no (fun h => h.elim k0 k2)
theorem FnTurnedLevels : laws_FnTurnedLevels.Pure := by
  intro l m hl hl2 hlw hm hm2 hmw
  refine Ev.rounds ?_
  unfold laws_FnTurnedLevels.f
  obtain ⟨b, hb, _⟩ := r8Long_eq l m
  refine Ev.bind (Ev.const hb) ?_
  refine Ev.cond (fun _ => Ev.now _) (fun _ => ?_)
  obtain ⟨kind, hkd, hk0, hk1⟩ := r8At_eq l hlw 0 6 (by omega) (by omega)
  obtain ⟨t, ht, hts, htb⟩ := R8Bits_ev m hmw 30 (by omega) (by omega)
  have hk : kindB kind = true := decide_eq_true (by omega)
  have htB : bitsB t = true := by unfold bitsB; rw [htb, decide_eq_true (show t.size ≤ 400 by omega)]; rfl
  have hlo := LO_impl kind t (by omega)
  unfold LO_ans at hlo
  rw [if_pos ⟨hk, htB⟩] at hlo
  have hs : sOK kind (lvStart kind) := sOK_start (kinds_of hk)
  have hlen : (levelsN kind t.data.toList).length = (if kind = 2 ∨ kind = 3 then 2 else 1) * t.size := by
    unfold levelsN; rw [lvGo_len _ hs, size_data]
  have hlen2 : (levelsN kind t.data.toList).length ≤ 60 := by rw [hlen]; split <;> omega
  have hin : ∀ x ∈ levelsN kind t.data.toList, -1 ≤ x ∧ x ≤ 1 := lvGo_in _ hs
  have hrd := TL_read kind hk t.data.toList
  generalize levelsN kind t.data.toList = L at hlo hlen hlen2 hin hrd
  have hL : levelsB L = true := by unfold levelsB; rw [inAll_of hin, decide_eq_true (show L.length ≤ 800 by omega)]; rfl
  have t1 := TL_impl_ev L (by omega)
  unfold TL_ans at t1
  rw [if_pos hL] at t1
  have hML : (ngL L).length = L.length := by unfold ngL; rw [List.length_map]
  have hM : levelsB (ngL L) = true := by unfold levelsB; rw [inAll_of (ngL_in hin), hML, decide_eq_true (show L.length ≤ 800 by omega)]; rfl
  have t2 := TL_impl_ev (ngL L) (by omega)
  unfold TL_ans at t2
  rw [if_pos hM] at t2
  have t2' : Ev (fun k => impl_TurnLevels.f k (ngL L)) (ngL (ngL L), true) := t2
  rw [ngL_ngL hin] at t2'
  have hlenM : (ngL L).length = (if kind = 2 ∨ kind = 3 then 2 else 1) * t.size := by rw [hML]; exact hlen
  have hcan : canB kind (ngL L) = true := by
    unfold canB
    rw [hk, hM, Bool.true_and, Bool.true_and]
    by_cases hp : kind = 2 ∨ kind = 3
    · rw [if_pos hp] at hlenM ⊢
      exact decide_eq_true (by omega)
    · rw [if_neg hp]
      exact decide_eq_true (by omega)
  have t3 := RdI_impl kind (ngL L) (by omega)
  unfold RdI_ans at t3
  rw [if_pos hcan] at t3
  have hT : (strOfNums (readN kind (ngL L))).size = t.size := by rw [str_size, readN_len hlenM]
  have v1 : (kind = 0 ∨ kind = 2) → ∀ i : Nat, i < t.size → bt (strOfNums (readN kind (ngL L))) (i : Int) ≠ bt t (i : Int) := by
    intro hkk i hi
    have e := hrd.1 hkk
    have hil : i < (readN kind (ngL L)).length := by rw [← str_size, hT]; exact hi
    have hbit : isBitB (t[i]) = true := by
      rw [List.all_eq_true] at htb
      exact htb _ (by rw [← data_get hi]; exact List.getElem_mem _)
    have ev : (readN kind (ngL L))[i] = bitN (!(t[i] == 49)) := by
      simp only [e, flipL, List.getElem_map, data_get hi]
    rw [bt_str hil (by rw [ev]; exact bitN_range _), ev, bt_nat t i hi]
    exact (bit_val hbit).2
  have v2 : ¬ (kind = 0 ∨ kind = 2) → ∀ i : Nat, 1 ≤ i → i < t.size → bt (strOfNums (readN kind (ngL L))) (i : Int) = bt t (i : Int) := by
    intro hkk i hi1 hi
    obtain ⟨i, rfl⟩ : ∃ j, i = j + 1 := ⟨i - 1, by omega⟩
    have hil : i + 1 < (readN kind (ngL L)).length := by rw [← str_size, hT]; exact hi
    have hbit : isBitB (t[i + 1]) = true := by
      rw [List.all_eq_true] at htb
      exact htb _ (by rw [← data_get hi]; exact List.getElem_mem _)
    have h0 : 0 < t.size := by omega
    have hd := drop_data h0
    rw [List.drop_zero] at hd
    obtain ⟨h, e⟩ := hrd.2 hkk _ _ hd
    have ev : (readN kind (ngL L))[i + 1] = bitN (t[i + 1] == 49) := by
      simp only [e, sameL, List.getElem_cons_succ, List.getElem_map, List.getElem_drop]
      congr 2
      rw [← data_get hi]
      congr 1
      omega
    rw [bt_str hil (by rw [ev]; exact bitN_range _), ev, bt_nat t (i + 1) hi]
    exact (bit_val hbit).1
  have hloop := TL_loop kind t _ hT (by omega) v1 v2 t.size 0 (by omega)
  refine Ev.bind (Ev.const hkd) (Ev.bind ht (Ev.bind hlo (Ev.bind t1 (Ev.bind t2' (Ev.bind t3 ?_)))))
  refine Ev.cond (fun _ => ?_) (fun h' => absurd rfl h')
  refine Ev.cond (fun _ => ?_) (fun h' => absurd rfl h')
  refine Ev.cond (fun _ => ?_) (fun h' => absurd rfl h')
  refine Ev.cond (fun _ => ?_) (fun h' => absurd rfl h')
  refine Ev.bind (r8Nums_same L (by omega)) ?_
  refine Ev.cond (fun _ => ?_) (fun h' => absurd rfl h')
  have e : (((strOfNums (readN kind (ngL L))).size : Int) != (t.size : Int)) = false := by rw [hT]; exact bne_self_eq_false _
  rw [e]
  apply Ev.succ
  simp only [laws_FnTurnedLevels.j0]
  exact Ev.cond (fun h' => absurd h' (by decide)) (fun _ => hloop)

end Go.Proofs.YtgofcgjpmiojjaaDoor.Pure
