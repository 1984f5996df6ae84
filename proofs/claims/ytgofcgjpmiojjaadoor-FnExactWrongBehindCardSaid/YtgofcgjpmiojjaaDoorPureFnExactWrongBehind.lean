/- For every kind of line, all bits and every changed level the program's WrongBehind answers what the reference's does. -/
import Derived.Test.YtgofcgjpmiojjaaDoorQFnExactWrongBehindx8
import Derived.Test.YtgofcgjpmiojjaaDoorBase
import Derived.Test.YtgofcgjpmiojjaaDoorLevels
namespace Go.Proofs.YtgofcgjpmiojjaaDoor.Pure
open Go.RowKit Go.Proofs.YtgofcgjpmiojjaaDoor.QFnExactWrongBehind Go.Proofs.YtgofcgjpmiojjaaDoor.Base Go.Proofs.YtgofcgjpmiojjaaDoorW.PrintWords Go.Proofs.YtgofcgjpmiojjaaDoorW.PrintLast Go.Proofs.YtgofcgjpmiojjaaDoorW.PrintMore
open Go.Proofs.YtgofcgjpmiojjaaDoor.Levels
set_option linter.unusedVariables false
set_option linter.unusedSimpArgs false

/-! within -/
theorem within_eq (a b c : Int) : impl_within.f a b c = some (decide (b ≤ a ∧ a ≤ c)) := by
  unfold impl_within.f
  by_cases h : b ≤ a
  · simp [h, ge_iff_le]
  · simp [h, ge_iff_le]

/-! l00In -/
theorem l00In_eq (a b c : Int) : spec_l00In.f a b c = some (decide (b ≤ a ∧ a ≤ c)) := by
  unfold spec_l00In.f
  by_cases h : b ≤ a
  · simp [h, ge_iff_le]
  · simp [h, ge_iff_le]

/-! lineKinds -/
def kindB (kind : Int) : Bool := decide (0 ≤ kind ∧ kind ≤ 5)
def pairB (kind : Int) : Bool := decide (kind = 2 ∨ kind = 3)
def perN (kind : Int) : Int := if kind = 2 ∨ kind = 3 then 2 else 1
theorem kinds_of {kind : Int} (h : kindB kind = true) : kind = 0 ∨ kind = 1 ∨ kind = 2 ∨ kind = 3 ∨ kind = 4 ∨ kind = 5 := by
  have h := of_decide_eq_true h
  omega
theorem isLine_eq (kind : Int) : impl_isLine.f kind = some (kindB kind) := by
  unfold impl_isLine.f kindB
  rw [within_eq]; rfl
theorem l10Kind_eq (kind : Int) : spec_l10Kind.f kind = some (kindB kind) := by
  unfold spec_l10Kind.f kindB
  rw [l00In_eq]; rfl
theorem isPaired_eq (kind : Int) : impl_isPaired.f kind = some (pairB kind) := by
  unfold impl_isPaired.f pairB
  by_cases h : kind = 2
  · simp [h]
  · by_cases h3 : kind = 3
    · simp [h3]
    · simp [h, h3]

/-! lineBefore -/
def beforeN (kind : Int) : Int := if kind = 1 ∨ kind = 3 then -1 else 0
theorem l10Before_eq (kind : Int) : spec_l10Before.f kind = some (beforeN kind) := by
  unfold spec_l10Before.f beforeN
  by_cases h : kind = 1
  · simp [h]
  · by_cases h3 : kind = 3
    · simp [h3]
    · simp [h, h3]

/-! lineMore -/
theorem perBit_eq (kind : Int) : impl_perBit.f kind = some (perN kind) := by
  unfold impl_perBit.f perN
  rw [isPaired_eq]
  unfold pairB
  by_cases h : kind = 2 ∨ kind = 3
  · simp [h]
  · simp [h]
theorem l10Double_eq (kind : Int) : spec_l10Double.f kind = some (pairB kind) := by
  unfold spec_l10Double.f pairB
  by_cases h : kind = 2
  · simp [h]
  · by_cases h3 : kind = 3
    · simp [h3]
    · simp [h, h3]
theorem newWire_eq (kind : Int) : impl_newWire.f kind = some (kind, beforeN kind, 1, -1) := by
  unfold impl_newWire.f beforeN
  by_cases h : kind = 1
  · simp [h]
  · by_cases h3 : kind = 3
    · simp [h3]
    · simp [h, h3]
theorem bitOf_eq (b : Bool) : impl_bitOf.f b = some (bitStr b) := by cases b <;> rfl

/-! levelsImpl -/
theorem send_eq {kind s : Int} (h : sOK kind s) (b : Bool) : impl_wire_send.f kind (wLevel kind s) (wNext kind s) (wFrom kind s) b = some (lvOut kind s b, kind, wLevel kind (lvNext kind s b), wNext kind (lvNext kind s b), wFrom kind (lvNext kind s b)) := by
  rcases h with ⟨rfl, rfl⟩ | ⟨rfl, rfl | rfl⟩ | ⟨rfl, rfl⟩ | ⟨rfl, rfl | rfl⟩ | ⟨rfl, rfl | rfl⟩ | ⟨rfl, rfl | rfl | rfl | rfl⟩ <;> cases b <;> decide +kernel
theorem levelsOf_l0 (kind : Int) (t : ByteArray) (ht : t.size ≤ 1048576) : ∀ (d n : Nat) (c : List Int) (s : Int), sOK kind s → c.length ≤ 2 * n → n + d = t.size →
    Ev (fun k => impl_levelsOf.l0 k t c (t.size : Int) (n : Int) kind (wLevel kind s) (wNext kind s) (wFrom kind s)) (c ++ lvGo kind s (t.data.toList.drop n)) := by
  intro d
  induction d with
  | zero =>
    intro n c s hs hc h
    have c1 : ¬ ((n : Int) < (t.size : Int)) := by omega
    have c2 : t.data.toList.drop n = [] := List.drop_eq_nil_of_le (by rw [size_data]; omega)
    apply Ev.succ
    simp only [impl_levelsOf.l0]
    rw [c2, lvGo, List.append_nil]
    exact Ev.cond (fun h' => absurd h' c1) (fun _ => Ev.now _)
  | succ d ih =>
    intro n c s hs hc h
    have hl : n < t.size := by omega
    have c1 : (n : Int) < (t.size : Int) := by omega
    have c2 : (0 : Int) ≤ (n : Int) := by omega
    have hbt : (bt t (n : Int) == 49) = (t[n] == 49) := by
      rw [bt_nat t n hl, Bool.eq_iff_iff, beq_iff_eq, beq_iff_eq]
      constructor
      · intro h'; exact UInt8.toNat_inj.1 (by show (t[n]).toNat = 49; omega)
      · intro h'; rw [h']; rfl
    have hlen := lvOut_len hs (t[n] == 49)
    have hlen2 : (lvOut kind s (t[n] == 49)).length ≤ 2 := by rw [hlen]; split <;> omega
    have h3 := ih (n + 1) (c ++ lvOut kind s (t[n] == 49)) (lvNext kind s (t[n] == 49)) (sOK_next hs _) (by rw [List.length_append]; omega) (by omega)
    rw [List.append_assoc] at h3
    rw [drop_data hl, lvGo]
    apply Ev.succ
    simp only [impl_levelsOf.l0]
    refine Ev.cond (fun _ => ?_) (fun h' => absurd c1 h')
    refine Ev.cond (fun _ => ?_) (fun h' => absurd c2 h')
    refine Ev.cond (fun _ => ?_) (fun h' => absurd c1 h')
    rw [hbt]
    refine Ev.bind (Ev.const (send_eq hs _)) ?_
    refine Ev.cond (fun _ => ?_) (fun h' => absurd (by show c.length + (lvOut kind s (t[n] == 49)).length < 17592186044416; omega) h')
    rw [w64_succ (show n < 9223372036854775807 by omega)]
    exact h3
theorem levelsOf_ev (kind : Int) (hk : kindB kind = true) (t : ByteArray) (ht : t.size ≤ 1048576) : Ev (fun k => impl_levelsOf.f k kind t) (levelsN kind t.data.toList) := by
  unfold impl_levelsOf.f
  have hk' := kinds_of hk
  have e : beforeN kind = wLevel kind (lvStart kind) ∧ (1 : Int) = wNext kind (lvStart kind) ∧ (-1 : Int) = wFrom kind (lvStart kind) := by
    rcases hk' with rfl | rfl | rfl | rfl | rfl | rfl <;> decide
  refine Ev.bind (Ev.const (newWire_eq kind)) ?_
  have h := levelsOf_l0 kind t ht t.size 0 [] (lvStart kind) (sOK_start hk') (by simp) (by omega)
  rw [← e.1, ← e.2.1, ← e.2.2] at h
  exact h

/-! IsBits -/
theorem trim_bits (s : ByteArray) (h : s.size ≤ 9223372036854775807) : strings_Trim.f s (⟨#[48, 49]⟩ : ByteArray) = some ⟨(Lib.trimS s.data.toList [48, 49]).toArray⟩ := by
  unfold strings_Trim.f
  rw [if_pos ⟨h, by decide, by decide⟩]
theorem areBits_eq (s : ByteArray) (h : s.size ≤ 9223372036854775807) : impl_areBits.f s = some (s.data.toList.all isBitB) := by
  unfold impl_areBits.f
  rw [trim_bits s h, Option.bind_some]
  congr 1
  have e1 : (⟨(Lib.trimS s.data.toList [48, 49]).toArray⟩ : ByteArray).toList = Lib.trimS s.data.toList [48, 49] := by rw [Lib.toList_data]
  rw [e1, Bool.eq_iff_iff, beq_iff_eq, trimS_nil]
  have e2 : (fun b => ([48, 49] : List UInt8).contains b) = isBitB := funext contains_bits
  rw [e2]
theorem IsBits_eq (s : ByteArray) (h : s.size ≤ 9223372036854775807) : impl_IsBits.f s = some (bitsB s) := by
  unfold impl_IsBits.f bitsB
  by_cases h4 : s.size ≤ 400
  · have h4' : (s.size : Int) ≤ 400 := by omega
    simp only [h4', if_true, areBits_eq s h, Option.bind_some, h4, decide_true, Bool.and_true]
  · have h4' : ¬ (s.size : Int) ≤ 400 := by omega
    simp only [h4', if_false, h4, decide_false, Bool.and_false]

/-! LevelsOfI -/
def LO_ans (kind : Int) (t : ByteArray) : List Int × Bool := if kindB kind = true ∧ bitsB t = true then (levelsN kind t.data.toList, true) else ([], false)
theorem LO_len (kind : Int) (t : ByteArray) : (LO_ans kind t).1.length ≤ 1048576 := by
  unfold LO_ans
  split
  · rename_i h
    have h2 := h.2
    unfold bitsB at h2
    rw [Bool.and_eq_true] at h2
    have h3 := of_decide_eq_true h2.2
    have hs : sOK kind (lvStart kind) := sOK_start (kinds_of h.1)
    unfold levelsN
    rw [lvGo_len _ hs, size_data]
    split <;> omega
  · exact Nat.zero_le _
theorem LO_impl (kind : Int) (t : ByteArray) (ht : t.size ≤ 1048576) : Ev (fun k => impl_LevelsOf.f k kind t) (LO_ans kind t) := by
  unfold impl_LevelsOf.f LO_ans
  refine Ev.bind (Ev.const (isLine_eq kind)) ?_
  by_cases h1 : kindB kind = true
  · refine Ev.cond (fun _ => ?_) (fun h' => absurd h1 h')
    refine Ev.bind (Ev.const (IsBits_eq t (by omega))) ?_
    by_cases h2 : bitsB t = true
    · refine Ev.cond (fun _ => ?_) (fun h' => absurd h2 h')
      rw [if_pos ⟨h1, h2⟩]
      exact Ev.bind (levelsOf_ev kind h1 t ht) (Ev.now _)
    · refine Ev.cond (fun h' => absurd h' h2) (fun _ => ?_)
      rw [if_neg (fun h => h2 h.2)]
      exact Ev.now _
  · refine Ev.cond (fun h' => absurd h' h1) (fun _ => ?_)
    rw [if_neg (fun h => h1 h.1)]
    exact Ev.now _

/-! l10Levels -/
def circL : List Int := [0, 1, 0, -1]
/-- What the reference holds of the state. -/
def sHold (kind s last mark at_ : Int) : Prop := ((kind = 1 ∨ kind = 3) → last = s) ∧ (kind = 4 → mark = s) ∧ (kind = 5 → at_ = s)
theorem l10Levels_step (kind : Int) (t : ByteArray) (ht : t.size ≤ 1048576) (n : Nat) (hl : n < t.size) (c : List Int) (s last mark at_ : Int) (hs : sOK kind s) (hh : sHold kind s last mark at_) (hc : c.length ≤ 2 * n) (r : List Int)
    (h : ∀ last2 mark2 at2, sHold kind (lvNext kind s (t[n] == 49)) last2 mark2 at2 → Ev (fun k => spec_l10Levels.l0 k kind t (c ++ lvOut kind s (t[n] == 49)) last2 mark2 at2 circL ((n + 1 : Nat) : Int)) r) :
    Ev (fun k => spec_l10Levels.l0 k kind t c last mark at_ circL (n : Int)) r := by
  have c1 : (n : Int) < (t.size : Int) := by omega
  have c2 : (0 : Int) ≤ (n : Int) := by omega
  have c3 : c.length < 17592186044416 := by omega
  have hbt := bt_nat t n hl
  have hw := w64_succ (show n < 9223372036854775807 by omega)
  have hb : bt t (n : Int) = 49 ↔ (t[n] == 49) = true := by
    rw [hbt, beq_iff_eq]
    constructor
    · intro h'; exact UInt8.toNat_inj.1 (by show (t[n]).toNat = 49; omega)
    · intro h'; rw [h']; rfl
  generalize (t[n] == 49) = b at h hb
  apply Ev.succ
  simp only [spec_l10Levels.l0]
  refine Ev.cond (fun _ => ?_) (fun h' => absurd c1 h')
  refine Ev.cond (fun _ => ?_) (fun h' => absurd c2 h')
  rw [hw]
  rcases hs with ⟨rfl, rfl⟩ | ⟨rfl, hs⟩ | ⟨rfl, rfl⟩ | ⟨rfl, hs⟩ | ⟨rfl, hs⟩ | ⟨rfl, hs⟩
  · skip
    refine Ev.cond (fun _ => ?_) (fun h' => absurd (by decide) h')
    cases b
    · refine Ev.cond (fun h' => absurd (hb.1 h') (by decide)) (fun _ => ?_)
      exact Ev.cond (fun _ => h _ _ _ ⟨fun h' => absurd h' (by decide), fun h' => absurd h' (by decide), fun h' => absurd h' (by decide)⟩) (fun h' => absurd c3 h')
    · refine Ev.cond (fun _ => ?_) (fun h' => absurd (hb.2 rfl) h')
      exact Ev.cond (fun _ => h _ _ _ ⟨fun h' => absurd h' (by decide), fun h' => absurd h' (by decide), fun h' => absurd h' (by decide)⟩) (fun h' => absurd c3 h')
  · obtain rfl := hh.1 (by decide)
    have hwn : wrap64 (-last) = -last := w64 (by omega) (by omega)
    refine Ev.cond (fun h' => absurd h' (by decide)) (fun _ => ?_)
    refine Ev.cond (fun _ => ?_) (fun h' => absurd (by decide) h')
    cases b
    · refine Ev.cond (fun h' => absurd (hb.1 h') (by decide)) (fun _ => ?_)
      (try rw [hwn])
      exact Ev.cond (fun _ => h _ _ _ ⟨fun h' => rfl, fun h' => absurd h' (by decide), fun h' => absurd h' (by decide)⟩) (fun h' => absurd c3 h')
    · refine Ev.cond (fun _ => ?_) (fun h' => absurd (hb.2 rfl) h')
      (try rw [hwn])
      exact Ev.cond (fun _ => h _ _ _ ⟨fun h' => rfl, fun h' => absurd h' (by decide), fun h' => absurd h' (by decide)⟩) (fun h' => absurd c3 h')
  · skip
    refine Ev.cond (fun h' => absurd h' (by decide)) (fun _ => ?_)
    refine Ev.cond (fun h' => absurd h' (by decide)) (fun _ => ?_)
    refine Ev.cond (fun _ => ?_) (fun h' => absurd (by decide) h')
    cases b
    · refine Ev.cond (fun h' => absurd (hb.1 h') (by decide)) (fun _ => ?_)
      refine Ev.cond (fun _ => ?_) (fun h' => absurd c3 h')
      refine Ev.bind (Ev.now _) ?_
      refine Ev.cond (fun _ => ?_) (fun h' => absurd (by rw [List.length_append]; simp only [List.length_cons, List.length_nil]; omega) h')
      rw [List.append_assoc]
      exact h _ _ _ ⟨fun h' => absurd h' (by decide), fun h' => absurd h' (by decide), fun h' => absurd h' (by decide)⟩
    · refine Ev.cond (fun _ => ?_) (fun h' => absurd (hb.2 rfl) h')
      refine Ev.cond (fun _ => ?_) (fun h' => absurd c3 h')
      refine Ev.bind (Ev.now _) ?_
      refine Ev.cond (fun _ => ?_) (fun h' => absurd (by rw [List.length_append]; simp only [List.length_cons, List.length_nil]; omega) h')
      rw [List.append_assoc]
      exact h _ _ _ ⟨fun h' => absurd h' (by decide), fun h' => absurd h' (by decide), fun h' => absurd h' (by decide)⟩
  · obtain rfl := hh.1 (by decide)
    have hwn : wrap64 (-last) = -last := w64 (by omega) (by omega)
    have hwn2 : wrap64 (- -last) = last := by rw [w64 (by omega) (by omega)]; omega
    refine Ev.cond (fun h' => absurd h' (by decide)) (fun _ => ?_)
    refine Ev.cond (fun h' => absurd h' (by decide)) (fun _ => ?_)
    refine Ev.cond (fun h' => absurd h' (by decide)) (fun _ => ?_)
    refine Ev.cond (fun _ => ?_) (fun h' => absurd (by decide) h')
    cases b
    · refine Ev.cond (fun h' => absurd (hb.1 h') (by decide)) (fun _ => ?_)
      (try rw [hwn]); (try rw [hwn2])
      refine Ev.cond (fun _ => ?_) (fun h' => absurd c3 h')
      refine Ev.bind (Ev.now _) ?_
      refine Ev.cond (fun _ => ?_) (fun h' => absurd (by rw [List.length_append]; simp only [List.length_cons, List.length_nil]; omega) h')
      rw [List.append_assoc]
      exact h _ _ _ ⟨fun h' => rfl, fun h' => absurd h' (by decide), fun h' => absurd h' (by decide)⟩
    · refine Ev.cond (fun _ => ?_) (fun h' => absurd (hb.2 rfl) h')
      (try rw [hwn]); (try rw [hwn2])
      refine Ev.cond (fun _ => ?_) (fun h' => absurd c3 h')
      refine Ev.bind (Ev.now _) ?_
      refine Ev.cond (fun _ => ?_) (fun h' => absurd (by rw [List.length_append]; simp only [List.length_cons, List.length_nil]; omega) h')
      rw [List.append_assoc]
      exact h _ _ _ ⟨fun h' => rfl, fun h' => absurd h' (by decide), fun h' => absurd h' (by decide)⟩
  · obtain rfl := hh.2.1 rfl
    have hwn : wrap64 (-mark) = -mark := w64 (by omega) (by omega)
    refine Ev.cond (fun h' => absurd h' (by decide)) (fun _ => ?_)
    refine Ev.cond (fun h' => absurd h' (by decide)) (fun _ => ?_)
    refine Ev.cond (fun h' => absurd h' (by decide)) (fun _ => ?_)
    refine Ev.cond (fun h' => absurd h' (by decide)) (fun _ => ?_)
    refine Ev.cond (fun _ => ?_) (fun h' => absurd (by decide) h')
    cases b
    · refine Ev.cond (fun h' => absurd (hb.1 h') (by decide)) (fun _ => ?_)
      (try rw [hwn])
      exact Ev.cond (fun _ => h _ _ _ ⟨fun h' => absurd h' (by decide), fun h' => rfl, fun h' => absurd h' (by decide)⟩) (fun h' => absurd c3 h')
    · refine Ev.cond (fun _ => ?_) (fun h' => absurd (hb.2 rfl) h')
      (try rw [hwn])
      exact Ev.cond (fun _ => h _ _ _ ⟨fun h' => absurd h' (by decide), fun h' => rfl, fun h' => absurd h' (by decide)⟩) (fun h' => absurd c3 h')
  · obtain rfl := hh.2.2 rfl
    refine Ev.cond (fun h' => absurd h' (by decide)) (fun _ => ?_)
    refine Ev.cond (fun h' => absurd h' (by decide)) (fun _ => ?_)
    refine Ev.cond (fun h' => absurd h' (by decide)) (fun _ => ?_)
    refine Ev.cond (fun h' => absurd h' (by decide)) (fun _ => ?_)
    refine Ev.cond (fun h' => absurd h' (by decide)) (fun _ => ?_)
    refine Ev.cond (fun _ => ?_) (fun h' => absurd (by decide) h')
    cases b
    · refine Ev.cond (fun h' => absurd (hb.1 h') (by decide)) (fun _ => ?_)
      rcases hs with rfl | rfl | rfl | rfl
      · refine Ev.cond (fun _ => ?_) (fun h' => absurd (by decide) h')
        refine Ev.cond (fun _ => ?_) (fun h' => absurd (by decide) h')
        exact Ev.cond (fun _ => h _ _ 0 ⟨fun h' => absurd h' (by decide), fun h' => absurd h' (by decide), fun _ => by decide⟩) (fun h' => absurd c3 h')
      · refine Ev.cond (fun _ => ?_) (fun h' => absurd (by decide) h')
        refine Ev.cond (fun _ => ?_) (fun h' => absurd (by decide) h')
        exact Ev.cond (fun _ => h _ _ 1 ⟨fun h' => absurd h' (by decide), fun h' => absurd h' (by decide), fun _ => by decide⟩) (fun h' => absurd c3 h')
      · refine Ev.cond (fun _ => ?_) (fun h' => absurd (by decide) h')
        refine Ev.cond (fun _ => ?_) (fun h' => absurd (by decide) h')
        exact Ev.cond (fun _ => h _ _ 2 ⟨fun h' => absurd h' (by decide), fun h' => absurd h' (by decide), fun _ => by decide⟩) (fun h' => absurd c3 h')
      · refine Ev.cond (fun _ => ?_) (fun h' => absurd (by decide) h')
        refine Ev.cond (fun _ => ?_) (fun h' => absurd (by decide) h')
        exact Ev.cond (fun _ => h _ _ 3 ⟨fun h' => absurd h' (by decide), fun h' => absurd h' (by decide), fun _ => by decide⟩) (fun h' => absurd c3 h')
    · refine Ev.cond (fun _ => ?_) (fun h' => absurd (hb.2 rfl) h')
      rcases hs with rfl | rfl | rfl | rfl
      · have ht : Int.tmod (wrap64 (0 + 1)) 4 = 1 := by decide +kernel
        rw [ht]
        refine Ev.cond (fun _ => ?_) (fun h' => absurd (by decide) h')
        refine Ev.cond (fun _ => ?_) (fun h' => absurd (by decide) h')
        exact Ev.cond (fun _ => h _ _ 1 ⟨fun h' => absurd h' (by decide), fun h' => absurd h' (by decide), fun _ => by decide⟩) (fun h' => absurd c3 h')
      · have ht : Int.tmod (wrap64 (1 + 1)) 4 = 2 := by decide +kernel
        rw [ht]
        refine Ev.cond (fun _ => ?_) (fun h' => absurd (by decide) h')
        refine Ev.cond (fun _ => ?_) (fun h' => absurd (by decide) h')
        exact Ev.cond (fun _ => h _ _ 2 ⟨fun h' => absurd h' (by decide), fun h' => absurd h' (by decide), fun _ => by decide⟩) (fun h' => absurd c3 h')
      · have ht : Int.tmod (wrap64 (2 + 1)) 4 = 3 := by decide +kernel
        rw [ht]
        refine Ev.cond (fun _ => ?_) (fun h' => absurd (by decide) h')
        refine Ev.cond (fun _ => ?_) (fun h' => absurd (by decide) h')
        exact Ev.cond (fun _ => h _ _ 3 ⟨fun h' => absurd h' (by decide), fun h' => absurd h' (by decide), fun _ => by decide⟩) (fun h' => absurd c3 h')
      · have ht : Int.tmod (wrap64 (3 + 1)) 4 = 0 := by decide +kernel
        rw [ht]
        refine Ev.cond (fun _ => ?_) (fun h' => absurd (by decide) h')
        refine Ev.cond (fun _ => ?_) (fun h' => absurd (by decide) h')
        exact Ev.cond (fun _ => h _ _ 0 ⟨fun h' => absurd h' (by decide), fun h' => absurd h' (by decide), fun _ => by decide⟩) (fun h' => absurd c3 h')
theorem l10Levels_l0 (kind : Int) (t : ByteArray) (ht : t.size ≤ 1048576) : ∀ (d n : Nat) (c : List Int) (s last mark at_ : Int), sOK kind s → sHold kind s last mark at_ → c.length ≤ 2 * n → n + d = t.size →
    Ev (fun k => spec_l10Levels.l0 k kind t c last mark at_ circL (n : Int)) (c ++ lvGo kind s (t.data.toList.drop n)) := by
  intro d
  induction d with
  | zero =>
    intro n c s last mark at_ hs hh hc h
    have c1 : ¬ ((n : Int) < (t.size : Int)) := by omega
    have c2 : t.data.toList.drop n = [] := List.drop_eq_nil_of_le (by rw [size_data]; omega)
    apply Ev.succ
    simp only [spec_l10Levels.l0]
    rw [c2, lvGo, List.append_nil]
    exact Ev.cond (fun h' => absurd h' c1) (fun _ => Ev.now _)
  | succ d ih =>
    intro n c s last mark at_ hs hh hc h
    have hl : n < t.size := by omega
    have hlen := lvOut_len hs (t[n] == 49)
    have hlen2 : (lvOut kind s (t[n] == 49)).length ≤ 2 := by rw [hlen]; split <;> omega
    rw [drop_data hl, lvGo, ← List.append_assoc]
    refine l10Levels_step kind t ht n hl c s last mark at_ hs hh hc _ (fun last2 mark2 at2 h2 => ?_)
    exact ih (n + 1) (c ++ lvOut kind s (t[n] == 49)) (lvNext kind s (t[n] == 49)) last2 mark2 at2 (sOK_next hs _) h2 (by rw [List.length_append]; omega) (by omega)
theorem l10Levels_ev (kind : Int) (hk : kindB kind = true) (t : ByteArray) (ht : t.size ≤ 1048576) : Ev (fun k => spec_l10Levels.f k kind t) (levelsN kind t.data.toList) := by
  unfold spec_l10Levels.f
  have hk' := kinds_of hk
  refine Ev.bind (Ev.const (l10Before_eq kind)) ?_
  have h := l10Levels_l0 kind t ht t.size 0 [] (lvStart kind) (beforeN kind) 1 0 (sOK_start hk') (by rcases hk' with rfl | rfl | rfl | rfl | rfl | rfl <;> exact ⟨by decide, by decide, by decide⟩) (by simp) (by omega)
  exact h

/-! l01Bits -/
theorem l01Bits_l0 (s : ByteArray) (hn : s.size ≤ 1099511627776) : ∀ d n, n + d = s.size → Ev (fun k => spec_l01Bits.l0 k s (n : Int)) ((s.data.toList.drop n).all isBitB && decide (s.size ≤ 400)) := by
  intro d
  induction d with
  | zero =>
    intro n h
    apply Ev.succ
    have h1 : ¬ ((n : Int) < (s.size : Int)) := by omega
    have h2 : s.data.toList.drop n = [] := List.drop_eq_nil_of_le (by rw [size_data]; omega)
    have h3 : ((s.size : Int) ≤ 400) = (s.size ≤ 400) := propext ⟨fun h => by omega, fun h => by omega⟩
    simp only [spec_l01Bits.l0, h1, if_false, h2, h3]
    exact Ev.now _
  | succ d ih =>
    intro n h
    apply Ev.succ
    have hl : n < s.size := by omega
    have h1 : (n : Int) < (s.size : Int) := by omega
    have h2 : (0 : Int) ≤ (n : Int) := by omega
    have h3 := ih (n + 1) (by omega)
    rw [drop_data hl, List.all_cons]
    have hb := bt_nat s n hl
    have hi := isBit_iff (s[n])
    rw [← hb] at hi
    simp only [spec_l01Bits.l0, h1, h2, if_true, w64_succ (show n < 9223372036854775807 by omega)]
    by_cases c1 : bt s (n : Int) = 48
    · rw [hi.2 (.inl c1), Bool.true_and]
      simp only [c1, if_true]; exact h3
    · by_cases c2 : bt s (n : Int) = 49
      · rw [hi.2 (.inr c2), Bool.true_and]
        simp only [c2, if_true, Int.reduceEq, if_false]; exact h3
      · have hf : isBitB (s[n]) = false := by
          rw [Bool.eq_false_iff]; intro hc
          rcases hi.1 hc with hc | hc
          · exact c1 hc
          · exact c2 hc
        simp only [hf, Bool.false_and, c1, c2, if_false]
        exact Ev.now _
theorem l01Bits_ev (s : ByteArray) (hn : s.size ≤ 1099511627776) : Ev (fun k => spec_l01Bits.f k s) (bitsB s) := by
  have h := l01Bits_l0 s hn s.size 0 (by omega)
  exact h

/-! readDefs -/
/-- What levels are read as: kinds with one level a bit, kinds with two. -/
def readS (kind last : Int) : List Int → List Int
  | [] => []
  | x :: r => bitN (if kind = 0 then x == 1 else if kind = 4 then x != 0 else x != last) :: readS kind x r
def readP (kind last : Int) : List Int → List Int
  | x :: y :: r => bitN (if kind = 3 then x == last else decide (x < y)) :: readP kind y r
  | _ => []
def readN (kind : Int) (xs : List Int) : List Int := if kind = 2 ∨ kind = 3 then readP kind (beforeN kind) xs else readS kind (beforeN kind) xs
theorem drop_two {xs : List Int} {n : Nat} (h : n + 1 < xs.length) : xs.drop n = rd xs (n : Int) :: rd xs ((n + 1 : Nat) : Int) :: xs.drop (n + 2) := by
  rw [drop_rd (show n < xs.length by omega), drop_rd h]

/-! readLevels -/
theorem rl_tail {kind : Int} {Q : Nat} (hQ : perN kind = (Q : Int)) (hQ1 : 1 ≤ Q) (hQ2 : Q ≤ 2) {xs c : List Int} {n : Nat} {b : Bool} {r : ByteArray} (hlen : n + Q ≤ xs.length) (hx : xs.length ≤ 1099511627776) (hc : c.length ≤ n)
    (h : Ev (fun k => impl_readLevels.l0 k kind xs (c ++ [bitN b]) (rd xs ((n + Q - 1 : Nat) : Int)) ((n + Q : Nat) : Int)) r) :
    Ev (fun k => (impl_perBit.f kind).bind fun t => (if 0 ≤ (wrap64 ((wrap64 ((n : Int) + t)) - 1)) then (if (wrap64 ((wrap64 ((n : Int) + t)) - 1)) < (xs.length : Int) then ((impl_bitOf.f b).bind fun t' => (if c.length + t'.size < 140737488355328 then ((impl_perBit.f kind).bind fun t'' => (impl_readLevels.l0 k kind xs (c ++ bytesOf t') (rd xs (wrap64 ((wrap64 ((n : Int) + t)) - 1))) (wrap64 ((n : Int) + t'')))) else (none))) else (none)) else (none))) r := by
  refine Ev.bind (Ev.const (perBit_eq kind)) ?_
  have e1 : wrap64 ((n : Int) + (Q : Int)) = ((n + Q : Nat) : Int) := by rw [w64 (by omega) (by omega)]; omega
  have e2 : wrap64 (((n + Q : Nat) : Int) - 1) = ((n + Q - 1 : Nat) : Int) := by rw [w64 (by omega) (by omega)]; omega
  rw [hQ, e1, e2]
  refine Ev.cond (fun _ => ?_) (fun h' => absurd (by omega) h')
  refine Ev.cond (fun _ => ?_) (fun h' => absurd (by omega) h')
  refine Ev.bind (Ev.const (bitOf_eq b)) ?_
  refine Ev.cond (fun _ => ?_) (fun h' => absurd (by rw [bitStr_size]; omega) h')
  refine Ev.bind (Ev.const (perBit_eq kind)) ?_
  rw [hQ, e1, bytesOf_bitStr]
  exact h
theorem sr_j2S {kind : Int} (hk : pairB kind = false) {xs c : List Int} {last x : Int} {n : Nat} {b : Bool} {r : ByteArray} (hlen : n < xs.length) (hx : xs.length ≤ 1099511627776) (hc : c.length ≤ n)
    (h : Ev (fun k => spec_l10Read.l0 k kind xs (c ++ [bitN b]) (rd xs (n : Int)) ((n + 1 : Nat) : Int)) r) : Ev (fun k => spec_l10Read.j2 k kind xs c last (n : Int) x b) r := by
  apply Ev.succ
  simp only [spec_l10Read.j2]
  refine Ev.bind (Ev.const (l10Double_eq kind)) ?_
  rw [hk]
  refine Ev.cond (fun h' => absurd h' (by decide)) (fun _ => ?_)
  refine Ev.cond (fun _ => ?_) (fun h' => absurd (by omega) h')
  refine Ev.cond (fun _ => ?_) (fun h' => absurd (by omega) h')
  have hw := w64_succ (show n < 9223372036854775807 by omega)
  rw [hw]
  cases b
  · refine Ev.cond (fun h' => absurd h' (by decide)) (fun _ => ?_)
    exact Ev.cond (fun _ => h) (fun h' => absurd (by omega) h')
  · refine Ev.cond (fun _ => ?_) (fun h' => absurd (by decide) h')
    exact Ev.cond (fun _ => h) (fun h' => absurd (by omega) h')
theorem readLevels_S (kind : Int) (hk : kind = 0 ∨ kind = 1 ∨ kind = 4 ∨ kind = 5) (xs : List Int) (hn : xs.length ≤ 1099511627776) : ∀ (d n : Nat) (c : List Int) (last : Int), c.length ≤ n → n + d = xs.length →
    Ev (fun k => spec_l10Read.l0 k kind xs c last (n : Int)) (strOfNums (c ++ readS kind last (xs.drop n))) ∧ Ev (fun k => impl_readLevels.l0 k kind xs c last (n : Int)) (strOfNums (c ++ readS kind last (xs.drop n))) := by
  have hp : perN kind = ((1 : Nat) : Int) := by unfold perN; rw [if_neg (by omega)]; rfl
  have hq : pairB kind = false := decide_eq_false (by omega)
  intro d
  induction d with
  | zero =>
    intro n c last hc h
    have h1 : ¬ ((n : Int) < (xs.length : Int)) := by omega
    have h2 : xs.drop n = [] := List.drop_eq_nil_of_le (by omega)
    rw [h2]
    simp only [readS, List.append_nil]
    refine ⟨Ev.succ ?_, Ev.succ ?_⟩
    · simp only [spec_l10Read.l0, h1, if_false]; exact Ev.now _
    · simp only [impl_readLevels.l0, h1, if_false]; exact Ev.now _
  | succ d ih =>
    intro n c last hc h
    have h1 : (n : Int) < (xs.length : Int) := by omega
    have h2 : (0 : Int) ≤ (n : Int) := by omega
    rw [drop_rd (show n < xs.length by omega)]
    simp only [readS]
    have key : ∀ b : Bool, b = (if kind = 0 then rd xs (n : Int) == 1 else if kind = 4 then rd xs (n : Int) != 0 else rd xs (n : Int) != last) →
        Ev (fun k => spec_l10Read.l0 k kind xs (c ++ [bitN b]) (rd xs (n : Int)) ((n + 1 : Nat) : Int)) (strOfNums (c ++ bitN (if kind = 0 then rd xs (n : Int) == 1 else if kind = 4 then rd xs (n : Int) != 0 else rd xs (n : Int) != last) :: readS kind (rd xs (n : Int)) (xs.drop (n + 1)))) ∧
        Ev (fun k => impl_readLevels.l0 k kind xs (c ++ [bitN b]) (rd xs ((n + 1 - 1 : Nat) : Int)) ((n + 1 : Nat) : Int)) (strOfNums (c ++ bitN (if kind = 0 then rd xs (n : Int) == 1 else if kind = 4 then rd xs (n : Int) != 0 else rd xs (n : Int) != last) :: readS kind (rd xs (n : Int)) (xs.drop (n + 1)))) := by
      intro b hb
      have h3 := ih (n + 1) (c ++ [bitN b]) (rd xs (n : Int)) (by simp; omega) (by omega)
      rw [List.append_assoc] at h3
      rw [← hb]
      exact h3
    rcases hk with rfl | rfl | rfl | rfl
    · obtain ⟨k1, k2⟩ := key (rd xs (n : Int) == 1) (by rw [if_pos rfl])
      refine ⟨Ev.succ ?_, Ev.succ ?_⟩
      · simp only [spec_l10Read.l0]
        refine Ev.cond (fun _ => ?_) (fun h' => absurd h1 h')
        refine Ev.cond (fun _ => ?_) (fun h' => absurd h2 h')
        refine Ev.cond (fun _ => ?_) (fun h' => absurd (by decide) h')
        exact sr_j2S hq (by omega) hn hc k1
      · simp only [impl_readLevels.l0]
        refine Ev.cond (fun _ => ?_) (fun h' => absurd h1 h')
        refine Ev.cond (fun _ => ?_) (fun h' => absurd h2 h')
        refine Ev.cond (fun _ => ?_) (fun h' => absurd (by decide) h')
        exact rl_tail hp (by omega) (by omega) (by omega) hn hc k2
    · obtain ⟨k1, k2⟩ := key (rd xs (n : Int) != last) (by rw [if_neg (by decide), if_neg (by decide)])
      refine ⟨Ev.succ ?_, Ev.succ ?_⟩
      · simp only [spec_l10Read.l0]
        refine Ev.cond (fun _ => ?_) (fun h' => absurd h1 h')
        refine Ev.cond (fun _ => ?_) (fun h' => absurd h2 h')
        refine Ev.cond (fun h' => absurd h' (by decide)) (fun _ => ?_)
        refine Ev.cond (fun _ => Ev.succ ?_) (fun h' => absurd (by decide) h')
        simp only [spec_l10Read.j1]
        refine Ev.cond (fun _ => ?_) (fun h' => absurd (by decide) h')
        exact sr_j2S hq (by omega) hn hc k1
      · simp only [impl_readLevels.l0]
        refine Ev.cond (fun _ => ?_) (fun h' => absurd h1 h')
        refine Ev.cond (fun _ => ?_) (fun h' => absurd h2 h')
        refine Ev.cond (fun h' => absurd h' (by decide)) (fun _ => ?_)
        refine Ev.cond (fun _ => Ev.succ ?_) (fun h' => absurd (by decide) h')
        simp only [impl_readLevels.j1]
        refine Ev.cond (fun _ => ?_) (fun h' => absurd (by decide) h')
        exact rl_tail hp (by omega) (by omega) (by omega) hn hc k2
    · obtain ⟨k1, k2⟩ := key (rd xs (n : Int) != 0) (by rw [if_neg (by decide), if_pos rfl])
      refine ⟨Ev.succ ?_, Ev.succ ?_⟩
      · simp only [spec_l10Read.l0]
        refine Ev.cond (fun _ => ?_) (fun h' => absurd h1 h')
        refine Ev.cond (fun _ => ?_) (fun h' => absurd h2 h')
        refine Ev.cond (fun h' => absurd h' (by decide)) (fun _ => ?_)
        refine Ev.cond (fun h' => absurd h' (by decide)) (fun _ => Ev.succ ?_)
        simp only [spec_l10Read.j1]
        refine Ev.cond (fun h' => absurd h' (by decide)) (fun _ => ?_)
        refine Ev.cond (fun _ => ?_) (fun h' => absurd (by decide) h')
        exact sr_j2S hq (by omega) hn hc k1
      · simp only [impl_readLevels.l0]
        refine Ev.cond (fun _ => ?_) (fun h' => absurd h1 h')
        refine Ev.cond (fun _ => ?_) (fun h' => absurd h2 h')
        refine Ev.cond (fun h' => absurd h' (by decide)) (fun _ => ?_)
        refine Ev.cond (fun h' => absurd h' (by decide)) (fun _ => Ev.succ ?_)
        simp only [impl_readLevels.j1]
        refine Ev.cond (fun h' => absurd h' (by decide)) (fun _ => ?_)
        refine Ev.cond (fun h' => absurd h' (by decide)) (fun _ => ?_)
        refine Ev.cond (fun h' => absurd h' (by decide)) (fun _ => ?_)
        refine Ev.cond (fun _ => ?_) (fun h' => absurd (by decide) h')
        exact rl_tail hp (by omega) (by omega) (by omega) hn hc k2
    · obtain ⟨k1, k2⟩ := key (rd xs (n : Int) != last) (by rw [if_neg (by decide), if_neg (by decide)])
      refine ⟨Ev.succ ?_, Ev.succ ?_⟩
      · simp only [spec_l10Read.l0]
        refine Ev.cond (fun _ => ?_) (fun h' => absurd h1 h')
        refine Ev.cond (fun _ => ?_) (fun h' => absurd h2 h')
        refine Ev.cond (fun h' => absurd h' (by decide)) (fun _ => ?_)
        refine Ev.cond (fun h' => absurd h' (by decide)) (fun _ => Ev.succ ?_)
        simp only [spec_l10Read.j1]
        refine Ev.cond (fun _ => ?_) (fun h' => absurd (by decide) h')
        exact sr_j2S hq (by omega) hn hc k1
      · simp only [impl_readLevels.l0]
        refine Ev.cond (fun _ => ?_) (fun h' => absurd h1 h')
        refine Ev.cond (fun _ => ?_) (fun h' => absurd h2 h')
        refine Ev.cond (fun h' => absurd h' (by decide)) (fun _ => ?_)
        refine Ev.cond (fun h' => absurd h' (by decide)) (fun _ => Ev.succ ?_)
        simp only [impl_readLevels.j1]
        refine Ev.cond (fun _ => ?_) (fun h' => absurd (by decide) h')
        exact rl_tail hp (by omega) (by omega) (by omega) hn hc k2
theorem readLevels_P (kind : Int) (hk : kind = 2 ∨ kind = 3) (xs : List Int) (hn : xs.length ≤ 1099511627776) : ∀ (d n : Nat) (c : List Int) (last : Int), c.length ≤ n → n + 2 * d = xs.length →
    Ev (fun k => spec_l10Read.l0 k kind xs c last (n : Int)) (strOfNums (c ++ readP kind last (xs.drop n))) ∧ Ev (fun k => impl_readLevels.l0 k kind xs c last (n : Int)) (strOfNums (c ++ readP kind last (xs.drop n))) := by
  have hp : perN kind = ((2 : Nat) : Int) := by unfold perN; rw [if_pos hk]; rfl
  have hq : pairB kind = true := decide_eq_true hk
  intro d
  induction d with
  | zero =>
    intro n c last hc h
    have h1 : ¬ ((n : Int) < (xs.length : Int)) := by omega
    have h2 : xs.drop n = [] := List.drop_eq_nil_of_le (by omega)
    rw [h2]
    simp only [readP, List.append_nil]
    refine ⟨Ev.succ ?_, Ev.succ ?_⟩
    · simp only [spec_l10Read.l0, h1, if_false]; exact Ev.now _
    · simp only [impl_readLevels.l0, h1, if_false]; exact Ev.now _
  | succ d ih =>
    intro n c last hc h
    have h1 : (n : Int) < (xs.length : Int) := by omega
    have h2 : (0 : Int) ≤ (n : Int) := by omega
    have h3 : ((n + 1 : Nat) : Int) < (xs.length : Int) := by omega
    have h4 : (0 : Int) ≤ ((n + 1 : Nat) : Int) := by omega
    have h4' : ¬ ((n + 1 : Nat) : Int) = (xs.length : Int) := by omega
    have hw := w64_succ (show n < 9223372036854775807 by omega)
    have hw4 := w64_succ (show n + 1 < 9223372036854775807 by omega)
    rw [drop_two (show n + 1 < xs.length by omega)]
    simp only [readP]
    have tl : ∀ b : Bool, b = (if kind = 3 then rd xs (n : Int) == last else decide (rd xs (n : Int) < rd xs ((n + 1 : Nat) : Int))) →
        Ev (fun k => spec_l10Read.l0 k kind xs (c ++ [bitN b]) (rd xs ((n + 1 : Nat) : Int)) ((n + 1 + 1 : Nat) : Int)) (strOfNums (c ++ bitN (if kind = 3 then rd xs (n : Int) == last else decide (rd xs (n : Int) < rd xs ((n + 1 : Nat) : Int))) :: readP kind (rd xs ((n + 1 : Nat) : Int)) (xs.drop (n + 2)))) ∧
        Ev (fun k => impl_readLevels.l0 k kind xs (c ++ [bitN b]) (rd xs ((n + 2 - 1 : Nat) : Int)) ((n + 2 : Nat) : Int)) (strOfNums (c ++ bitN (if kind = 3 then rd xs (n : Int) == last else decide (rd xs (n : Int) < rd xs ((n + 1 : Nat) : Int))) :: readP kind (rd xs ((n + 1 : Nat) : Int)) (xs.drop (n + 2)))) := by
      intro b hb
      have h9 := ih (n + 2) (c ++ [bitN b]) (rd xs ((n + 1 : Nat) : Int)) (by simp; omega) (by omega)
      rw [List.append_assoc] at h9
      rw [← hb]
      exact h9
    rcases hk with rfl | rfl
    · obtain ⟨k1, k2⟩ := tl (decide (rd xs (n : Int) < rd xs ((n + 1 : Nat) : Int))) (by rw [if_neg (by decide)])
      refine ⟨Ev.succ ?_, Ev.succ ?_⟩
      · simp only [spec_l10Read.l0]
        refine Ev.cond (fun _ => ?_) (fun h' => absurd h1 h')
        refine Ev.cond (fun _ => ?_) (fun h' => absurd h2 h')
        refine Ev.cond (fun h' => absurd h' (by decide)) (fun _ => ?_)
        refine Ev.cond (fun h' => absurd h' (by decide)) (fun _ => Ev.succ ?_)
        simp only [spec_l10Read.j1]
        refine Ev.cond (fun h' => absurd h' (by decide)) (fun _ => ?_)
        refine Ev.cond (fun h' => absurd h' (by decide)) (fun _ => Ev.succ ?_)
        simp only [spec_l10Read.j2]
        refine Ev.bind (Ev.const (l10Double_eq 2)) ?_
        rw [hq, hw, hw4]
        refine Ev.cond (fun _ => ?_) (fun h' => absurd (by decide) h')
        refine Ev.cond (fun h' => absurd h' h4') (fun _ => ?_)
        refine Ev.cond (fun _ => ?_) (fun h' => absurd h4 h')
        refine Ev.cond (fun _ => ?_) (fun h' => absurd h3 h')
        refine Ev.cond (fun h' => absurd h' (by decide)) (fun _ => ?_)
        by_cases hlt : rd xs (n : Int) < rd xs ((n + 1 : Nat) : Int)
        · rw [decide_eq_true hlt] at k1 ⊢
          refine Ev.cond (fun _ => ?_) (fun h' => absurd hlt h')
          exact Ev.cond (fun _ => k1) (fun h' => absurd (by omega) h')
        · rw [decide_eq_false hlt] at k1 ⊢
          refine Ev.cond (fun h' => absurd h' hlt) (fun _ => ?_)
          exact Ev.cond (fun _ => k1) (fun h' => absurd (by omega) h')
      · simp only [impl_readLevels.l0]
        refine Ev.cond (fun _ => ?_) (fun h' => absurd h1 h')
        refine Ev.cond (fun _ => ?_) (fun h' => absurd h2 h')
        refine Ev.cond (fun h' => absurd h' (by decide)) (fun _ => ?_)
        refine Ev.cond (fun h' => absurd h' (by decide)) (fun _ => Ev.succ ?_)
        simp only [impl_readLevels.j1]
        refine Ev.cond (fun h' => absurd h' (by decide)) (fun _ => ?_)
        refine Ev.cond (fun _ => ?_) (fun h' => absurd (by decide) h')
        rw [hw]
        refine Ev.cond (fun _ => ?_) (fun h' => absurd h4 h')
        refine Ev.cond (fun _ => ?_) (fun h' => absurd h3 h')
        exact rl_tail hp (by omega) (by omega) (by omega) hn hc k2
    · obtain ⟨k1, k2⟩ := tl (rd xs (n : Int) == last) (by rw [if_pos rfl])
      refine ⟨Ev.succ ?_, Ev.succ ?_⟩
      · simp only [spec_l10Read.l0]
        refine Ev.cond (fun _ => ?_) (fun h' => absurd h1 h')
        refine Ev.cond (fun _ => ?_) (fun h' => absurd h2 h')
        refine Ev.cond (fun h' => absurd h' (by decide)) (fun _ => ?_)
        refine Ev.cond (fun h' => absurd h' (by decide)) (fun _ => Ev.succ ?_)
        simp only [spec_l10Read.j1]
        refine Ev.cond (fun h' => absurd h' (by decide)) (fun _ => ?_)
        refine Ev.cond (fun h' => absurd h' (by decide)) (fun _ => Ev.succ ?_)
        simp only [spec_l10Read.j2]
        refine Ev.bind (Ev.const (l10Double_eq 3)) ?_
        rw [hq, hw, hw4]
        refine Ev.cond (fun _ => ?_) (fun h' => absurd (by decide) h')
        refine Ev.cond (fun h' => absurd h' h4') (fun _ => ?_)
        refine Ev.cond (fun _ => ?_) (fun h' => absurd h4 h')
        refine Ev.cond (fun _ => ?_) (fun h' => absurd h3 h')
        refine Ev.cond (fun _ => ?_) (fun h' => absurd (by decide) h')
        by_cases heq : rd xs (n : Int) = last
        · have hb : (rd xs (n : Int) == last) = true := beq_iff_eq.2 heq
          rw [hb] at k1 ⊢
          refine Ev.cond (fun _ => ?_) (fun h' => absurd heq h')
          exact Ev.cond (fun _ => k1) (fun h' => absurd (by omega) h')
        · have hb : (rd xs (n : Int) == last) = false := beq_eq_false_iff_ne.2 heq
          rw [hb] at k1 ⊢
          refine Ev.cond (fun h' => absurd h' heq) (fun _ => ?_)
          exact Ev.cond (fun _ => k1) (fun h' => absurd (by omega) h')
      · simp only [impl_readLevels.l0]
        refine Ev.cond (fun _ => ?_) (fun h' => absurd h1 h')
        refine Ev.cond (fun _ => ?_) (fun h' => absurd h2 h')
        refine Ev.cond (fun h' => absurd h' (by decide)) (fun _ => ?_)
        refine Ev.cond (fun h' => absurd h' (by decide)) (fun _ => Ev.succ ?_)
        simp only [impl_readLevels.j1]
        refine Ev.cond (fun h' => absurd h' (by decide)) (fun _ => ?_)
        refine Ev.cond (fun h' => absurd h' (by decide)) (fun _ => ?_)
        refine Ev.cond (fun _ => ?_) (fun h' => absurd (by decide) h')
        exact rl_tail hp (by omega) (by omega) (by omega) hn hc k2
theorem readLevels_ev (kind : Int) (hk : kindB kind = true) (xs : List Int) (hn : xs.length ≤ 1099511627776) (hp : pairB kind = true → xs.length % 2 = 0) :
    Ev (fun k => spec_l10Read.f k kind xs) (strOfNums (readN kind xs)) ∧ Ev (fun k => impl_readLevels.f k kind xs) (strOfNums (readN kind xs)) := by
  unfold spec_l10Read.f impl_readLevels.f readN
  have hk' := kinds_of hk
  have fin : Ev (fun k => spec_l10Read.l0 k kind xs [] (beforeN kind) 0) (strOfNums (if kind = 2 ∨ kind = 3 then readP kind (beforeN kind) xs else readS kind (beforeN kind) xs)) ∧ Ev (fun k => impl_readLevels.l0 k kind xs [] (beforeN kind) 0) (strOfNums (if kind = 2 ∨ kind = 3 then readP kind (beforeN kind) xs else readS kind (beforeN kind) xs)) := by
    by_cases h : kind = 2 ∨ kind = 3
    · have h' := hp (decide_eq_true h)
      rw [if_pos h]
      exact readLevels_P kind h xs hn (xs.length / 2) 0 [] (beforeN kind) (by simp) (by omega)
    · rw [if_neg h]
      exact readLevels_S kind (by omega) xs hn xs.length 0 [] (beforeN kind) (by simp) (by omega)
  exact ⟨Ev.bind (Ev.const (l10Before_eq kind)) fin.1, Ev.bind (Ev.const (newWire_eq kind)) fin.2⟩

/-! readLen -/
theorem readS_len (kind : Int) : ∀ (xs : List Int) (last : Int), (readS kind last xs).length = xs.length := by
  intro xs
  induction xs with
  | nil => intro last; rfl
  | cons x xs ih => intro last; simp only [readS, List.length_cons, ih]
theorem readP_len (kind : Int) : ∀ (n : Nat) (xs : List Int) (last : Int), xs.length = 2 * n → (readP kind last xs).length = n := by
  intro n
  induction n with
  | zero =>
    intro xs last h
    obtain rfl : xs = [] := List.eq_nil_of_length_eq_zero (by omega)
    rfl
  | succ n ih =>
    intro xs last h
    match xs, h with
    | x :: y :: r, h =>
      simp only [List.length_cons] at h
      simp only [readP, List.length_cons, ih r y (by omega)]
theorem readN_len {kind : Int} {xs : List Int} {n : Nat} (h : xs.length = (if kind = 2 ∨ kind = 3 then 2 else 1) * n) : (readN kind xs).length = n := by
  unfold readN
  by_cases hp : kind = 2 ∨ kind = 3
  · rw [if_pos hp] at h ⊢
    exact readP_len kind n xs _ h
  · rw [if_neg hp] at h ⊢
    rw [readS_len, h, Nat.one_mul]

/-! strs -/
theorem str_size (l : List Int) : (strOfNums l).size = l.length := by
  show (strOfNums l).data.size = _
  simp [strOfNums]
theorem bt_str {xs : List Int} {k : Nat} (hk : k < xs.length) (h : 0 ≤ xs[k] ∧ xs[k] ≤ 255) : bt (strOfNums xs) (k : Int) = xs[k] := by
  have hk' : k < (strOfNums xs).size := by rw [str_size]; exact hk
  rw [bt_nat _ _ hk']
  have e : (strOfNums xs)[k]'hk' = UInt8.ofNat (xs[k]).toNat := by
    show (strOfNums xs).data[k]'_ = _
    simp [strOfNums]
  rw [e, UInt8.toNat_ofNat']
  omega
theorem all_bits_iff (s : ByteArray) : s.data.toList.all isBitB = true ↔ ∀ k : Nat, k < s.size → (bt s (k : Int) = 48 ∨ bt s (k : Int) = 49) := by
  rw [List.all_eq_true]
  constructor
  · intro h k hk
    rw [bt_nat s k hk]
    refine (isBit_iff _).1 (h _ ?_)
    rw [← data_get hk]; exact List.getElem_mem _
  · intro h b hb
    obtain ⟨k, hk, rfl⟩ := List.mem_iff_getElem.1 hb
    have hk' : k < s.size := by rw [← size_data]; exact hk
    rw [isBit_iff, data_get hk', ← bt_nat s k hk']
    exact h k hk'
theorem str_ext {s t : ByteArray} (h : s.size = t.size) (h2 : ∀ k : Nat, k < s.size → bt s (k : Int) = bt t (k : Int)) : s = t := by
  apply ByteArray.ext
  apply Array.ext
  · exact h
  · intro k h3 h4
    have e := h2 k h3
    rw [bt_nat s k h3, bt_nat t k h4] at e
    exact UInt8.toNat_inj.1 (by exact_mod_cast e)

theorem WB_loop (t T : ByteArray) (hT : T.size = t.size) (ht : t.size ≤ 400) : ∀ (d n : Nat) (c : Int), n + d = t.size →
    ∃ r, Ev (fun k => spec_WrongBehind.l0 k t T c (n : Int)) r ∧ Ev (fun k => impl_WrongBehind.l0 k t T c (t.size : Int) (n : Int)) r := by
  intro d
  induction d with
  | zero =>
    intro n c h
    have c1 : ¬ (n : Int) < (t.size : Int) := by omega
    refine ⟨(c, true), Ev.succ ?_, Ev.succ ?_⟩
    · simp only [spec_WrongBehind.l0]
      refine Ev.cond (fun h' => absurd h' c1) (fun _ => Ev.now _)
    · simp only [impl_WrongBehind.l0]
      refine Ev.cond (fun h' => absurd h' c1) (fun _ => Ev.now _)
  | succ d ih =>
    intro n c h
    have c1 : (n : Int) < (t.size : Int) := by omega
    have c2 : (0 : Int) ≤ (n : Int) := by omega
    have c3 : (n : Int) < (T.size : Int) := by omega
    have hw := w64_succ (show n < 9223372036854775807 by omega)
    by_cases e : bt T (n : Int) = bt t (n : Int)
    · obtain ⟨r, r1, r2⟩ := ih (n + 1) c (by omega)
      refine ⟨r, Ev.succ ?_, Ev.succ ?_⟩
      · simp only [spec_WrongBehind.l0, hw]
        refine Ev.cond (fun _ => ?_) (fun h' => absurd c1 h')
        refine Ev.cond (fun _ => ?_) (fun h' => absurd c2 h')
        refine Ev.cond (fun _ => ?_) (fun h' => absurd c3 h')
        refine Ev.cond (fun _ => r1) (fun h' => absurd e h')
      · simp only [impl_WrongBehind.l0, hw]
        refine Ev.cond (fun _ => ?_) (fun h' => absurd c1 h')
        refine Ev.cond (fun _ => ?_) (fun h' => absurd c2 h')
        refine Ev.cond (fun _ => ?_) (fun h' => absurd c3 h')
        refine Ev.cond (fun _ => ?_) (fun h' => absurd c1 h')
        refine Ev.cond (fun _ => r2) (fun h' => absurd e h')
    · obtain ⟨r, r1, r2⟩ := ih (n + 1) (wrap64 (c + 1)) (by omega)
      refine ⟨r, Ev.succ ?_, Ev.succ ?_⟩
      · simp only [spec_WrongBehind.l0, hw]
        refine Ev.cond (fun _ => ?_) (fun h' => absurd c1 h')
        refine Ev.cond (fun _ => ?_) (fun h' => absurd c2 h')
        refine Ev.cond (fun _ => ?_) (fun h' => absurd c3 h')
        refine Ev.cond (fun h' => absurd h' e) (fun _ => r1)
      · simp only [impl_WrongBehind.l0, hw]
        refine Ev.cond (fun _ => ?_) (fun h' => absurd c1 h')
        refine Ev.cond (fun _ => ?_) (fun h' => absurd c2 h')
        refine Ev.cond (fun _ => ?_) (fun h' => absurd c3 h')
        refine Ev.cond (fun _ => ?_) (fun h' => absurd c1 h')
        refine Ev.cond (fun h' => absurd h' e) (fun _ => r2)
theorem WB_no_spec (kind : Int) (t : ByteArray) (p l : Int) : Ev (fun k => spec_WrongBehind.j0 k kind t p l true) (0, false) := by
  apply Ev.succ
  simp only [spec_WrongBehind.j0]
  exact Ev.cond (fun _ => Ev.now _) (fun h' => absurd (by trivial) h')
theorem WB_no_impl (kind : Int) (t : ByteArray) (p l : Int) (xs : List Int) : Ev (fun k => impl_WrongBehind.j0 k kind t p l xs true) (0, false) := by
  apply Ev.succ
  simp only [impl_WrongBehind.j0]
  exact Ev.cond (fun _ => Ev.now _) (fun h' => absurd (by trivial) h')
theorem WB_ev (kind : Int) (t : ByteArray) (p l : Int) (ht : t.size ≤ 1048576) : ∃ r, Ev (fun k => spec_WrongBehind.f k kind t p l) r ∧ Ev (fun k => impl_WrongBehind.f k kind t p l) r := by
  have hlo := LO_impl kind t ht
  by_cases h1 : kindB kind = true
  · by_cases h2 : bitsB t = true
    · have h3 : LO_ans kind t = (levelsN kind t.data.toList, true) := by unfold LO_ans; rw [if_pos ⟨h1, h2⟩]
      have hll := LO_len kind t
      rw [h3] at hlo hll
      have hsz : t.size ≤ 400 := by
        have h5 := h2
        unfold bitsB at h5
        rw [Bool.and_eq_true] at h5
        exact of_decide_eq_true h5.2
      have hs : sOK kind (lvStart kind) := sOK_start (kinds_of h1)
      have hlen : (levelsN kind t.data.toList).length = (if kind = 2 ∨ kind = 3 then 2 else 1) * t.size := by
        unfold levelsN
        rw [lvGo_len _ hs, size_data]
      have hl10 := l10Levels_ev kind h1 t ht
      generalize levelsN kind t.data.toList = L at hlo hll hlen hl10
      simp only at hll
      have hw : wrap64 ((L.length : Int) - 1) = (L.length : Int) - 1 := w64 (by omega) (by omega)
      by_cases h4 : -1 ≤ l ∧ l ≤ 1
      · by_cases h5 : 0 ≤ p ∧ p ≤ (L.length : Int) - 1
        · have c1 : 0 ≤ p := h5.1
          have c2 : p < (L.length : Int) := by omega
          have spec1 : ∀ r, Ev (fun k => spec_WrongBehind.j1 k kind t p l L ((rd L p) == l)) r → Ev (fun k => spec_WrongBehind.f k kind t p l) r := by
            intro r hr
            unfold spec_WrongBehind.f
            refine Ev.bind (Ev.const (l10Kind_eq kind)) ?_
            refine Ev.cond (fun _ => ?_) (fun h' => absurd h1 h')
            refine Ev.bind (l01Bits_ev t (by omega)) ?_
            refine Ev.cond (fun _ => ?_) (fun h' => absurd h2 h')
            refine Ev.bind (Ev.const (l00In_eq l (-1) 1)) ?_
            rw [decide_eq_true h4]
            apply Ev.succ
            simp only [spec_WrongBehind.j0]
            refine Ev.cond (fun h' => absurd h' (by decide)) (fun _ => ?_)
            refine Ev.bind hl10 ?_
            refine Ev.bind (Ev.const (l00In_eq _ _ _)) ?_
            rw [hw]
            refine Ev.cond (fun _ => ?_) (fun h' => absurd (decide_eq_true h5) h')
            refine Ev.cond (fun _ => ?_) (fun h' => absurd c1 h')
            refine Ev.cond (fun _ => ?_) (fun h' => absurd c2 h')
            exact hr
          have impl1 : ∀ r, Ev (fun k => impl_WrongBehind.j0 k kind t p l L ((rd L p) == l)) r → Ev (fun k => impl_WrongBehind.f k kind t p l) r := by
            intro r hr
            unfold impl_WrongBehind.f
            refine Ev.bind hlo ?_
            refine Ev.cond (fun _ => ?_) (fun h' => absurd (by trivial) h')
            refine Ev.bind (Ev.const (within_eq _ _ _)) ?_
            rw [hw]
            refine Ev.cond (fun _ => ?_) (fun h' => absurd (decide_eq_true h5) h')
            refine Ev.bind (Ev.const (within_eq _ _ _)) ?_
            refine Ev.cond (fun _ => ?_) (fun h' => absurd (decide_eq_true h4) h')
            refine Ev.cond (fun _ => ?_) (fun h' => absurd c1 h')
            refine Ev.cond (fun _ => ?_) (fun h' => absurd c2 h')
            exact hr
          by_cases e : ((rd L p) == l) = true
          · refine ⟨(0, false), spec1 _ ?_, impl1 _ ?_⟩
            · rw [e]
              apply Ev.succ
              simp only [spec_WrongBehind.j1]
              exact Ev.cond (fun _ => Ev.now _) (fun h' => absurd (by trivial) h')
            · rw [e]; exact WB_no_impl kind t p l L
          · have e := eq_false_of_ne_true e
            have hlen2 : (L.set p.toNat l).length = (if kind = 2 ∨ kind = 3 then 2 else 1) * t.size := by rw [List.length_set]; exact hlen
            have hlen3 : (L.set p.toNat l).length ≤ 1099511627776 := by rw [List.length_set]; omega
            obtain ⟨k1, k2⟩ := readLevels_ev kind h1 (L.set p.toNat l) hlen3 (fun hp => by
              have hp := of_decide_eq_true hp
              rw [if_pos hp] at hlen2; omega)
            have hT : (strOfNums (readN kind (L.set p.toNat l))).size = t.size := by rw [str_size, readN_len hlen2]
            obtain ⟨r, r1, r2⟩ := WB_loop t _ hT hsz t.size 0 0 (by omega)
            refine ⟨r, spec1 _ ?_, impl1 _ ?_⟩
            · rw [e]
              apply Ev.succ
              simp only [spec_WrongBehind.j1]
              refine Ev.cond (fun h' => absurd h' (by decide)) (fun _ => ?_)
              refine Ev.cond (fun _ => ?_) (fun h' => absurd c1 h')
              refine Ev.cond (fun _ => ?_) (fun h' => absurd c2 h')
              exact Ev.bind k1 r1
            · rw [e]
              apply Ev.succ
              simp only [impl_WrongBehind.j0]
              refine Ev.cond (fun h' => absurd h' (by decide)) (fun _ => ?_)
              refine Ev.cond (fun _ => ?_) (fun h' => absurd c1 h')
              refine Ev.cond (fun _ => ?_) (fun h' => absurd c2 h')
              exact Ev.bind k2 r2
        · refine ⟨(0, false), ?_, ?_⟩
          · unfold spec_WrongBehind.f
            refine Ev.bind (Ev.const (l10Kind_eq kind)) ?_
            refine Ev.cond (fun _ => ?_) (fun h' => absurd h1 h')
            refine Ev.bind (l01Bits_ev t (by omega)) ?_
            refine Ev.cond (fun _ => ?_) (fun h' => absurd h2 h')
            refine Ev.bind (Ev.const (l00In_eq l (-1) 1)) ?_
            rw [decide_eq_true h4]
            apply Ev.succ
            simp only [spec_WrongBehind.j0]
            refine Ev.cond (fun h' => absurd h' (by decide)) (fun _ => ?_)
            refine Ev.bind hl10 ?_
            refine Ev.bind (Ev.const (l00In_eq _ _ _)) ?_
            rw [hw]
            refine Ev.cond (fun h' => absurd (of_decide_eq_true h') h5) (fun _ => ?_)
            apply Ev.succ
            simp only [spec_WrongBehind.j1]
            exact Ev.cond (fun _ => Ev.now _) (fun h' => absurd (by trivial) h')
          · unfold impl_WrongBehind.f
            refine Ev.bind hlo ?_
            refine Ev.cond (fun _ => ?_) (fun h' => absurd (by trivial) h')
            refine Ev.bind (Ev.const (within_eq _ _ _)) ?_
            rw [hw]
            refine Ev.cond (fun h' => absurd (of_decide_eq_true h') h5) (fun _ => ?_)
            exact WB_no_impl kind t p l L
      · refine ⟨(0, false), ?_, ?_⟩
        · unfold spec_WrongBehind.f
          refine Ev.bind (Ev.const (l10Kind_eq kind)) ?_
          refine Ev.cond (fun _ => ?_) (fun h' => absurd h1 h')
          refine Ev.bind (l01Bits_ev t (by omega)) ?_
          refine Ev.cond (fun _ => ?_) (fun h' => absurd h2 h')
          refine Ev.bind (Ev.const (l00In_eq l (-1) 1)) ?_
          rw [decide_eq_false h4]
          exact WB_no_spec kind t p l
        · unfold impl_WrongBehind.f
          refine Ev.bind hlo ?_
          refine Ev.cond (fun _ => ?_) (fun h' => absurd (by trivial) h')
          refine Ev.bind (Ev.const (within_eq _ _ _)) ?_
          refine Ev.cond (fun _ => ?_) (fun _ => WB_no_impl kind t p l L)
          refine Ev.bind (Ev.const (within_eq _ _ _)) ?_
          refine Ev.cond (fun h' => absurd (of_decide_eq_true h') h4) (fun _ => WB_no_impl kind t p l L)
    · have h3 : LO_ans kind t = ([], false) := by unfold LO_ans; rw [if_neg (fun h => h2 h.2)]
      rw [h3] at hlo
      refine ⟨(0, false), ?_, ?_⟩
      · unfold spec_WrongBehind.f
        refine Ev.bind (Ev.const (l10Kind_eq kind)) ?_
        refine Ev.cond (fun _ => ?_) (fun h' => absurd h1 h')
        refine Ev.bind (l01Bits_ev t (by omega)) ?_
        refine Ev.cond (fun h' => absurd h' h2) (fun _ => WB_no_spec kind t p l)
      · unfold impl_WrongBehind.f
        refine Ev.bind hlo ?_
        refine Ev.cond (fun h' => absurd h' (by decide)) (fun _ => WB_no_impl kind t p l _)
  · have h3 : LO_ans kind t = ([], false) := by unfold LO_ans; rw [if_neg (fun h => h1 h.1)]
    rw [h3] at hlo
    refine ⟨(0, false), ?_, ?_⟩
    · unfold spec_WrongBehind.f
      refine Ev.bind (Ev.const (l10Kind_eq kind)) ?_
      refine Ev.cond (fun h' => absurd h' h1) (fun _ => WB_no_spec kind t p l)
    · unfold impl_WrongBehind.f
      refine Ev.bind hlo ?_
      refine Ev.cond (fun h' => absurd h' (by decide)) (fun _ => WB_no_impl kind t p l _)
theorem FnExactWrongBehind : laws_FnExactWrongBehind.Pure := by
  intro kind t p l h0 h1 h2 h3
  refine Ev.rounds ?_
  unfold laws_FnExactWrongBehind.f
  by_cases hl : (t.size : Int) > 1048576
  · simp only [hl, if_true]; exact Ev.now _
  obtain ⟨r, r1, r2⟩ := WB_ev kind t p l (by omega)
  refine Ev.cond (fun h' => absurd h' hl) (fun _ => ?_)
  refine Ev.bind r1 (Ev.bind r2 ?_)
  refine Ev.cond (fun _ => ?_) (fun h' => absurd (by trivial) h')
  rw [bne_self_eq_false]
  refine Ev.cond (fun h' => absurd h' (by decide)) (fun _ => Ev.now _)

end Go.Proofs.YtgofcgjpmiojjaaDoor.Pure
