/- For every kind of line and all bits the program's LevelsOf answers what the reference's does. -/
import Derived.Test.YtgofcgjpmiojjaaDoorQFnExactLevelsOfx5
import Derived.Test.YtgofcgjpmiojjaaDoorBase
import Derived.Test.YtgofcgjpmiojjaaDoorLevels
namespace Go.Proofs.YtgofcgjpmiojjaaDoor.Pure
open Go.RowKit Go.Proofs.YtgofcgjpmiojjaaDoor.QFnExactLevelsOf Go.Proofs.YtgofcgjpmiojjaaDoor.Base Go.Proofs.YtgofcgjpmiojjaaDoorW.PrintWords Go.Proofs.YtgofcgjpmiojjaaDoorW.PrintLast Go.Proofs.YtgofcgjpmiojjaaDoorW.PrintMore
open Go.Proofs.YtgofcgjpmiojjaaDoor.Levels
set_option linter.unusedVariables false
set_option linter.unusedSimpArgs false

/-! within -/
theorem within_eq (a b c : Int) : impl_within.f a b c = some (decide (b ≤ a ∧ a ≤ c)) := by
  unfold impl_within.f
  by_cases h : b ≤ a
  · simp [h, ge_iff_le]
  · simp [h, ge_iff_le]

/-! l00In -/
theorem l00In_eq (a b c : Int) : spec_l00In.f a b c = some (decide (b ≤ a ∧ a ≤ c)) := by
  unfold spec_l00In.f
  by_cases h : b ≤ a
  · simp [h, ge_iff_le]
  · simp [h, ge_iff_le]

/-! lineKinds -/
def kindB (kind : Int) : Bool := decide (0 ≤ kind ∧ kind ≤ 5)
def pairB (kind : Int) : Bool := decide (kind = 2 ∨ kind = 3)
def perN (kind : Int) : Int := if kind = 2 ∨ kind = 3 then 2 else 1
theorem kinds_of {kind : Int} (h : kindB kind = true) : kind = 0 ∨ kind = 1 ∨ kind = 2 ∨ kind = 3 ∨ kind = 4 ∨ kind = 5 := by
  have h := of_decide_eq_true h
  omega
theorem isLine_eq (kind : Int) : impl_isLine.f kind = some (kindB kind) := by
  unfold impl_isLine.f kindB
  rw [within_eq]; rfl
theorem l10Kind_eq (kind : Int) : spec_l10Kind.f kind = some (kindB kind) := by
  unfold spec_l10Kind.f kindB
  rw [l00In_eq]; rfl

/-! lineBefore -/
def beforeN (kind : Int) : Int := if kind = 1 ∨ kind = 3 then -1 else 0
theorem l10Before_eq (kind : Int) : spec_l10Before.f kind = some (beforeN kind) := by
  unfold spec_l10Before.f beforeN
  by_cases h : kind = 1
  · simp [h]
  · by_cases h3 : kind = 3
    · simp [h3]
    · simp [h, h3]

/-! lineMore -/
theorem newWire_eq (kind : Int) : impl_newWire.f kind = some (kind, beforeN kind, 1, -1) := by
  unfold impl_newWire.f beforeN
  by_cases h : kind = 1
  · simp [h]
  · by_cases h3 : kind = 3
    · simp [h3]
    · simp [h, h3]

/-! levelsImpl -/
theorem send_eq {kind s : Int} (h : sOK kind s) (b : Bool) : impl_wire_send.f kind (wLevel kind s) (wNext kind s) (wFrom kind s) b = some (lvOut kind s b, kind, wLevel kind (lvNext kind s b), wNext kind (lvNext kind s b), wFrom kind (lvNext kind s b)) := by
  rcases h with ⟨rfl, rfl⟩ | ⟨rfl, rfl | rfl⟩ | ⟨rfl, rfl⟩ | ⟨rfl, rfl | rfl⟩ | ⟨rfl, rfl | rfl⟩ | ⟨rfl, rfl | rfl | rfl | rfl⟩ <;> cases b <;> decide +kernel
theorem levelsOf_l0 (kind : Int) (t : ByteArray) (ht : t.size ≤ 1048576) : ∀ (d n : Nat) (c : List Int) (s : Int), sOK kind s → c.length ≤ 2 * n → n + d = t.size →
    Ev (fun k => impl_levelsOf.l0 k t c (t.size : Int) (n : Int) kind (wLevel kind s) (wNext kind s) (wFrom kind s)) (c ++ lvGo kind s (t.data.toList.drop n)) := by
  intro d
  induction d with
  | zero =>
    intro n c s hs hc h
    have c1 : ¬ ((n : Int) < (t.size : Int)) := by omega
    have c2 : t.data.toList.drop n = [] := List.drop_eq_nil_of_le (by rw [size_data]; omega)
    apply Ev.succ
    simp only [impl_levelsOf.l0]
    rw [c2, lvGo, List.append_nil]
    exact Ev.cond (fun h' => absurd h' c1) (fun _ => Ev.now _)
  | succ d ih =>
    intro n c s hs hc h
    have hl : n < t.size := by omega
    have c1 : (n : Int) < (t.size : Int) := by omega
    have c2 : (0 : Int) ≤ (n : Int) := by omega
    have hbt : (bt t (n : Int) == 49) = (t[n] == 49) := by
      rw [bt_nat t n hl, Bool.eq_iff_iff, beq_iff_eq, beq_iff_eq]
      constructor
      · intro h'; exact UInt8.toNat_inj.1 (by show (t[n]).toNat = 49; omega)
      · intro h'; rw [h']; rfl
    have hlen := lvOut_len hs (t[n] == 49)
    have hlen2 : (lvOut kind s (t[n] == 49)).length ≤ 2 := by rw [hlen]; split <;> omega
    have h3 := ih (n + 1) (c ++ lvOut kind s (t[n] == 49)) (lvNext kind s (t[n] == 49)) (sOK_next hs _) (by rw [List.length_append]; omega) (by omega)
    rw [List.append_assoc] at h3
    rw [drop_data hl, lvGo]
    apply Ev.succ
    simp only [impl_levelsOf.l0]
    refine Ev.cond (fun _ => ?_) (fun h' => absurd c1 h')
    refine Ev.cond (fun _ => ?_) (fun h' => absurd c2 h')
    refine Ev.cond (fun _ => ?_) (fun h' => absurd c1 h')
    rw [hbt]
    refine Ev.bind (Ev.const (send_eq hs _)) ?_
    refine Ev.cond (fun _ => ?_) (fun h' => absurd (by show c.length + (lvOut kind s (t[n] == 49)).length < 17592186044416; omega) h')
    rw [w64_succ (show n < 9223372036854775807 by omega)]
    exact h3
theorem levelsOf_ev (kind : Int) (hk : kindB kind = true) (t : ByteArray) (ht : t.size ≤ 1048576) : Ev (fun k => impl_levelsOf.f k kind t) (levelsN kind t.data.toList) := by
  unfold impl_levelsOf.f
  have hk' := kinds_of hk
  have e : beforeN kind = wLevel kind (lvStart kind) ∧ (1 : Int) = wNext kind (lvStart kind) ∧ (-1 : Int) = wFrom kind (lvStart kind) := by
    rcases hk' with rfl | rfl | rfl | rfl | rfl | rfl <;> decide
  refine Ev.bind (Ev.const (newWire_eq kind)) ?_
  have h := levelsOf_l0 kind t ht t.size 0 [] (lvStart kind) (sOK_start hk') (by simp) (by omega)
  rw [← e.1, ← e.2.1, ← e.2.2] at h
  exact h

/-! IsBits -/
theorem trim_bits (s : ByteArray) (h : s.size ≤ 9223372036854775807) : strings_Trim.f s (⟨#[48, 49]⟩ : ByteArray) = some ⟨(Lib.trimS s.data.toList [48, 49]).toArray⟩ := by
  unfold strings_Trim.f
  rw [if_pos ⟨h, by decide, by decide⟩]
theorem areBits_eq (s : ByteArray) (h : s.size ≤ 9223372036854775807) : impl_areBits.f s = some (s.data.toList.all isBitB) := by
  unfold impl_areBits.f
  rw [trim_bits s h, Option.bind_some]
  congr 1
  have e1 : (⟨(Lib.trimS s.data.toList [48, 49]).toArray⟩ : ByteArray).toList = Lib.trimS s.data.toList [48, 49] := by rw [Lib.toList_data]
  rw [e1, Bool.eq_iff_iff, beq_iff_eq, trimS_nil]
  have e2 : (fun b => ([48, 49] : List UInt8).contains b) = isBitB := funext contains_bits
  rw [e2]
theorem IsBits_eq (s : ByteArray) (h : s.size ≤ 9223372036854775807) : impl_IsBits.f s = some (bitsB s) := by
  unfold impl_IsBits.f bitsB
  by_cases h4 : s.size ≤ 400
  · have h4' : (s.size : Int) ≤ 400 := by omega
    simp only [h4', if_true, areBits_eq s h, Option.bind_some, h4, decide_true, Bool.and_true]
  · have h4' : ¬ (s.size : Int) ≤ 400 := by omega
    simp only [h4', if_false, h4, decide_false, Bool.and_false]

/-! LevelsOfI -/
def LO_ans (kind : Int) (t : ByteArray) : List Int × Bool := if kindB kind = true ∧ bitsB t = true then (levelsN kind t.data.toList, true) else ([], false)
theorem LO_len (kind : Int) (t : ByteArray) : (LO_ans kind t).1.length ≤ 1048576 := by
  unfold LO_ans
  split
  · rename_i h
    have h2 := h.2
    unfold bitsB at h2
    rw [Bool.and_eq_true] at h2
    have h3 := of_decide_eq_true h2.2
    have hs : sOK kind (lvStart kind) := sOK_start (kinds_of h.1)
    unfold levelsN
    rw [lvGo_len _ hs, size_data]
    split <;> omega
  · exact Nat.zero_le _
theorem LO_impl (kind : Int) (t : ByteArray) (ht : t.size ≤ 1048576) : Ev (fun k => impl_LevelsOf.f k kind t) (LO_ans kind t) := by
  unfold impl_LevelsOf.f LO_ans
  refine Ev.bind (Ev.const (isLine_eq kind)) ?_
  by_cases h1 : kindB kind = true
  · refine Ev.cond (fun _ => ?_) (fun h' => absurd h1 h')
    refine Ev.bind (Ev.const (IsBits_eq t (by omega))) ?_
    by_cases h2 : bitsB t = true
    · refine Ev.cond (fun _ => ?_) (fun h' => absurd h2 h')
      rw [if_pos ⟨h1, h2⟩]
      exact Ev.bind (levelsOf_ev kind h1 t ht) (Ev.now _)
    · refine Ev.cond (fun h' => absurd h' h2) (fun _ => ?_)
      rw [if_neg (fun h => h2 h.2)]
      exact Ev.now _
  · refine Ev.cond (fun h' => absurd h' h1) (fun _ => ?_)
    rw [if_neg (fun h => h1 h.1)]
    exact Ev.now _

/-! l10Levels -/
def circL : List Int := [0, 1, 0, -1]
/-- What the reference holds of the state. -/
def sHold (kind s last mark at_ : Int) : Prop := ((kind = 1 ∨ kind = 3) → last = s) ∧ (kind = 4 → mark = s) ∧ (kind = 5 → at_ = s)
theorem l10Levels_step (kind : Int) (t : ByteArray) (ht : t.size ≤ 1048576) (n : Nat) (hl : n < t.size) (c : List Int) (s last mark at_ : Int) (hs : sOK kind s) (hh : sHold kind s last mark at_) (hc : c.length ≤ 2 * n) (r : List Int)
    (h : ∀ last2 mark2 at2, sHold kind (lvNext kind s (t[n] == 49)) last2 mark2 at2 → Ev (fun k => spec_l10Levels.l0 k kind t (c ++ lvOut kind s (t[n] == 49)) last2 mark2 at2 circL ((n + 1 : Nat) : Int)) r) :
    Ev (fun k => spec_l10Levels.l0 k kind t c last mark at_ circL (n : Int)) r := by
  have c1 : (n : Int) < (t.size : Int) := by omega
  have c2 : (0 : Int) ≤ (n : Int) := by omega
  have c3 : c.length < 17592186044416 := by omega
  have hbt := bt_nat t n hl
  have hw := w64_succ (show n < 9223372036854775807 by omega)
  have hb : bt t (n : Int) = 49 ↔ (t[n] == 49) = true := by
    rw [hbt, beq_iff_eq]
    constructor
    · intro h'; exact UInt8.toNat_inj.1 (by show (t[n]).toNat = 49; omega)
    · intro h'; rw [h']; rfl
  generalize (t[n] == 49) = b at h hb
  apply Ev.succ
  simp only [spec_l10Levels.l0]
  refine Ev.cond (fun _ => ?_) (fun h' => absurd c1 h')
  refine Ev.cond (fun _ => ?_) (fun h' => absurd c2 h')
  rw [hw]
  rcases hs with ⟨rfl, rfl⟩ | ⟨rfl, hs⟩ | ⟨rfl, rfl⟩ | ⟨rfl, hs⟩ | ⟨rfl, hs⟩ | ⟨rfl, hs⟩
  · skip
    refine Ev.cond (fun _ => ?_) (fun h' => absurd (by decide) h')
    cases b
    · refine Ev.cond (fun h' => absurd (hb.1 h') (by decide)) (fun _ => ?_)
      exact Ev.cond (fun _ => h _ _ _ ⟨fun h' => absurd h' (by decide), fun h' => absurd h' (by decide), fun h' => absurd h' (by decide)⟩) (fun h' => absurd c3 h')
    · refine Ev.cond (fun _ => ?_) (fun h' => absurd (hb.2 rfl) h')
      exact Ev.cond (fun _ => h _ _ _ ⟨fun h' => absurd h' (by decide), fun h' => absurd h' (by decide), fun h' => absurd h' (by decide)⟩) (fun h' => absurd c3 h')
  · obtain rfl := hh.1 (by decide)
    have hwn : wrap64 (-last) = -last := w64 (by omega) (by omega)
    refine Ev.cond (fun h' => absurd h' (by decide)) (fun _ => ?_)
    refine Ev.cond (fun _ => ?_) (fun h' => absurd (by decide) h')
    cases b
    · refine Ev.cond (fun h' => absurd (hb.1 h') (by decide)) (fun _ => ?_)
      (try rw [hwn])
      exact Ev.cond (fun _ => h _ _ _ ⟨fun h' => rfl, fun h' => absurd h' (by decide), fun h' => absurd h' (by decide)⟩) (fun h' => absurd c3 h')
    · refine Ev.cond (fun _ => ?_) (fun h' => absurd (hb.2 rfl) h')
      (try rw [hwn])
      exact Ev.cond (fun _ => h _ _ _ ⟨fun h' => rfl, fun h' => absurd h' (by decide), fun h' => absurd h' (by decide)⟩) (fun h' => absurd c3 h')
  · skip
    refine Ev.cond (fun h' => absurd h' (by decide)) (fun _ => ?_)
    refine Ev.cond (fun h' => absurd h' (by decide)) (fun _ => ?_)
    refine Ev.cond (fun _ => ?_) (fun h' => absurd (by decide) h')
    cases b
    · refine Ev.cond (fun h' => absurd (hb.1 h') (by decide)) (fun _ => ?_)
      refine Ev.cond (fun _ => ?_) (fun h' => absurd c3 h')
      refine Ev.bind (Ev.now _) ?_
      refine Ev.cond (fun _ => ?_) (fun h' => absurd (by rw [List.length_append]; simp only [List.length_cons, List.length_nil]; omega) h')
      rw [List.append_assoc]
      exact h _ _ _ ⟨fun h' => absurd h' (by decide), fun h' => absurd h' (by decide), fun h' => absurd h' (by decide)⟩
    · refine Ev.cond (fun _ => ?_) (fun h' => absurd (hb.2 rfl) h')
      refine Ev.cond (fun _ => ?_) (fun h' => absurd c3 h')
      refine Ev.bind (Ev.now _) ?_
      refine Ev.cond (fun _ => ?_) (fun h' => absurd (by rw [List.length_append]; simp only [List.length_cons, List.length_nil]; omega) h')
      rw [List.append_assoc]
      exact h _ _ _ ⟨fun h' => absurd h' (by decide), fun h' => absurd h' (by decide), fun h' => absurd h' (by decide)⟩
  · obtain rfl := hh.1 (by decide)
    have hwn : wrap64 (-last) = -last := w64 (by omega) (by omega)
    have hwn2 : wrap64 (- -last) = last := by rw [w64 (by omega) (by omega)]; omega
    refine Ev.cond (fun h' => absurd h' (by decide)) (fun _ => ?_)
    refine Ev.cond (fun h' => absurd h' (by decide)) (fun _ => ?_)
    refine Ev.cond (fun h' => absurd h' (by decide)) (fun _ => ?_)
    refine Ev.cond (fun _ => ?_) (fun h' => absurd (by decide) h')
    cases b
    · refine Ev.cond (fun h' => absurd (hb.1 h') (by decide)) (fun _ => ?_)
      (try rw [hwn]); (try rw [hwn2])
      refine Ev.cond (fun _ => ?_) (fun h' => absurd c3 h')
      refine Ev.bind (Ev.now _) ?_
      refine Ev.cond (fun _ => ?_) (fun h' => absurd (by rw [List.length_append]; simp only [List.length_cons, List.length_nil]; omega) h')
      rw [List.append_assoc]
      exact h _ _ _ ⟨fun h' => rfl, fun h' => absurd h' (by decide), fun h' => absurd h' (by decide)⟩
    · refine Ev.cond (fun _ => ?_) (fun h' => absurd (hb.2 rfl) h')
      (try rw [hwn]); (try rw [hwn2])
      refine Ev.cond (fun _ => ?_) (fun h' => absurd c3 h')
      refine Ev.bind (Ev.now _) ?_
      refine Ev.cond (fun _ => ?_) (fun h' => absurd (by rw [List.length_append]; simp only [List.length_cons, List.length_nil]; omega) h')
      rw [List.append_assoc]
      exact h _ _ _ ⟨fun h' => rfl, fun h' => absurd h' (by decide), fun h' => absurd h' (by decide)⟩
  · obtain rfl := hh.2.1 rfl
    have hwn : wrap64 (-mark) = -mark := w64 (by omega) (by omega)
    refine Ev.cond (fun h' => absurd h' (by decide)) (fun _ => ?_)
    refine Ev.cond (fun h' => absurd h' (by decide)) (fun _ => ?_)
    refine Ev.cond (fun h' => absurd h' (by decide)) (fun _ => ?_)
    refine Ev.cond (fun h' => absurd h' (by decide)) (fun _ => ?_)
    refine Ev.cond (fun _ => ?_) (fun h' => absurd (by decide) h')
    cases b
    · refine Ev.cond (fun h' => absurd (hb.1 h') (by decide)) (fun _ => ?_)
      (try rw [hwn])
      exact Ev.cond (fun _ => h _ _ _ ⟨fun h' => absurd h' (by decide), fun h' => rfl, fun h' => absurd h' (by decide)⟩) (fun h' => absurd c3 h')
    · refine Ev.cond (fun _ => ?_) (fun h' => absurd (hb.2 rfl) h')
      (try rw [hwn])
      exact Ev.cond (fun _ => h _ _ _ ⟨fun h' => absurd h' (by decide), fun h' => rfl, fun h' => absurd h' (by decide)⟩) (fun h' => absurd c3 h')
  · obtain rfl := hh.2.2 rfl
    refine Ev.cond (fun h' => absurd h' (by decide)) (fun _ => ?_)
    refine Ev.cond (fun h' => absurd h' (by decide)) (fun _ => ?_)
    refine Ev.cond (fun h' => absurd h' (by decide)) (fun _ => ?_)
    refine Ev.cond (fun h' => absurd h' (by decide)) (fun _ => ?_)
    refine Ev.cond (fun h' => absurd h' (by decide)) (fun _ => ?_)
    refine Ev.cond (fun _ => ?_) (fun h' => absurd (by decide) h')
    cases b
    · refine Ev.cond (fun h' => absurd (hb.1 h') (by decide)) (fun _ => ?_)
      rcases hs with rfl | rfl | rfl | rfl
      · refine Ev.cond (fun _ => ?_) (fun h' => absurd (by decide) h')
        refine Ev.cond (fun _ => ?_) (fun h' => absurd (by decide) h')
        exact Ev.cond (fun _ => h _ _ 0 ⟨fun h' => absurd h' (by decide), fun h' => absurd h' (by decide), fun _ => by decide⟩) (fun h' => absurd c3 h')
      · refine Ev.cond (fun _ => ?_) (fun h' => absurd (by decide) h')
        refine Ev.cond (fun _ => ?_) (fun h' => absurd (by decide) h')
        exact Ev.cond (fun _ => h _ _ 1 ⟨fun h' => absurd h' (by decide), fun h' => absurd h' (by decide), fun _ => by decide⟩) (fun h' => absurd c3 h')
      · refine Ev.cond (fun _ => ?_) (fun h' => absurd (by decide) h')
        refine Ev.cond (fun _ => ?_) (fun h' => absurd (by decide) h')
        exact Ev.cond (fun _ => h _ _ 2 ⟨fun h' => absurd h' (by decide), fun h' => absurd h' (by decide), fun _ => by decide⟩) (fun h' => absurd c3 h')
      · refine Ev.cond (fun _ => ?_) (fun h' => absurd (by decide) h')
        refine Ev.cond (fun _ => ?_) (fun h' => absurd (by decide) h')
        exact Ev.cond (fun _ => h _ _ 3 ⟨fun h' => absurd h' (by decide), fun h' => absurd h' (by decide), fun _ => by decide⟩) (fun h' => absurd c3 h')
    · refine Ev.cond (fun _ => ?_) (fun h' => absurd (hb.2 rfl) h')
      rcases hs with rfl | rfl | rfl | rfl
      · have ht : Int.tmod (wrap64 (0 + 1)) 4 = 1 := by decide +kernel
        rw [ht]
        refine Ev.cond (fun _ => ?_) (fun h' => absurd (by decide) h')
        refine Ev.cond (fun _ => ?_) (fun h' => absurd (by decide) h')
        exact Ev.cond (fun _ => h _ _ 1 ⟨fun h' => absurd h' (by decide), fun h' => absurd h' (by decide), fun _ => by decide⟩) (fun h' => absurd c3 h')
      · have ht : Int.tmod (wrap64 (1 + 1)) 4 = 2 := by decide +kernel
        rw [ht]
        refine Ev.cond (fun _ => ?_) (fun h' => absurd (by decide) h')
        refine Ev.cond (fun _ => ?_) (fun h' => absurd (by decide) h')
        exact Ev.cond (fun _ => h _ _ 2 ⟨fun h' => absurd h' (by decide), fun h' => absurd h' (by decide), fun _ => by decide⟩) (fun h' => absurd c3 h')
      · have ht : Int.tmod (wrap64 (2 + 1)) 4 = 3 := by decide +kernel
        rw [ht]
        refine Ev.cond (fun _ => ?_) (fun h' => absurd (by decide) h')
        refine Ev.cond (fun _ => ?_) (fun h' => absurd (by decide) h')
        exact Ev.cond (fun _ => h _ _ 3 ⟨fun h' => absurd h' (by decide), fun h' => absurd h' (by decide), fun _ => by decide⟩) (fun h' => absurd c3 h')
      · have ht : Int.tmod (wrap64 (3 + 1)) 4 = 0 := by decide +kernel
        rw [ht]
        refine Ev.cond (fun _ => ?_) (fun h' => absurd (by decide) h')
        refine Ev.cond (fun _ => ?_) (fun h' => absurd (by decide) h')
        exact Ev.cond (fun _ => h _ _ 0 ⟨fun h' => absurd h' (by decide), fun h' => absurd h' (by decide), fun _ => by decide⟩) (fun h' => absurd c3 h')
theorem l10Levels_l0 (kind : Int) (t : ByteArray) (ht : t.size ≤ 1048576) : ∀ (d n : Nat) (c : List Int) (s last mark at_ : Int), sOK kind s → sHold kind s last mark at_ → c.length ≤ 2 * n → n + d = t.size →
    Ev (fun k => spec_l10Levels.l0 k kind t c last mark at_ circL (n : Int)) (c ++ lvGo kind s (t.data.toList.drop n)) := by
  intro d
  induction d with
  | zero =>
    intro n c s last mark at_ hs hh hc h
    have c1 : ¬ ((n : Int) < (t.size : Int)) := by omega
    have c2 : t.data.toList.drop n = [] := List.drop_eq_nil_of_le (by rw [size_data]; omega)
    apply Ev.succ
    simp only [spec_l10Levels.l0]
    rw [c2, lvGo, List.append_nil]
    exact Ev.cond (fun h' => absurd h' c1) (fun _ => Ev.now _)
  | succ d ih =>
    intro n c s last mark at_ hs hh hc h
    have hl : n < t.size := by omega
    have hlen := lvOut_len hs (t[n] == 49)
    have hlen2 : (lvOut kind s (t[n] == 49)).length ≤ 2 := by rw [hlen]; split <;> omega
    rw [drop_data hl, lvGo, ← List.append_assoc]
    refine l10Levels_step kind t ht n hl c s last mark at_ hs hh hc _ (fun last2 mark2 at2 h2 => ?_)
    exact ih (n + 1) (c ++ lvOut kind s (t[n] == 49)) (lvNext kind s (t[n] == 49)) last2 mark2 at2 (sOK_next hs _) h2 (by rw [List.length_append]; omega) (by omega)
theorem l10Levels_ev (kind : Int) (hk : kindB kind = true) (t : ByteArray) (ht : t.size ≤ 1048576) : Ev (fun k => spec_l10Levels.f k kind t) (levelsN kind t.data.toList) := by
  unfold spec_l10Levels.f
  have hk' := kinds_of hk
  refine Ev.bind (Ev.const (l10Before_eq kind)) ?_
  have h := l10Levels_l0 kind t ht t.size 0 [] (lvStart kind) (beforeN kind) 1 0 (sOK_start hk') (by rcases hk' with rfl | rfl | rfl | rfl | rfl | rfl <;> exact ⟨by decide, by decide, by decide⟩) (by simp) (by omega)
  exact h

/-! l01Bits -/
theorem l01Bits_l0 (s : ByteArray) (hn : s.size ≤ 1099511627776) : ∀ d n, n + d = s.size → Ev (fun k => spec_l01Bits.l0 k s (n : Int)) ((s.data.toList.drop n).all isBitB && decide (s.size ≤ 400)) := by
  intro d
  induction d with
  | zero =>
    intro n h
    apply Ev.succ
    have h1 : ¬ ((n : Int) < (s.size : Int)) := by omega
    have h2 : s.data.toList.drop n = [] := List.drop_eq_nil_of_le (by rw [size_data]; omega)
    have h3 : ((s.size : Int) ≤ 400) = (s.size ≤ 400) := propext ⟨fun h => by omega, fun h => by omega⟩
    simp only [spec_l01Bits.l0, h1, if_false, h2, h3]
    exact Ev.now _
  | succ d ih =>
    intro n h
    apply Ev.succ
    have hl : n < s.size := by omega
    have h1 : (n : Int) < (s.size : Int) := by omega
    have h2 : (0 : Int) ≤ (n : Int) := by omega
    have h3 := ih (n + 1) (by omega)
    rw [drop_data hl, List.all_cons]
    have hb := bt_nat s n hl
    have hi := isBit_iff (s[n])
    rw [← hb] at hi
    simp only [spec_l01Bits.l0, h1, h2, if_true, w64_succ (show n < 9223372036854775807 by omega)]
    by_cases c1 : bt s (n : Int) = 48
    · rw [hi.2 (.inl c1), Bool.true_and]
      simp only [c1, if_true]; exact h3
    · by_cases c2 : bt s (n : Int) = 49
      · rw [hi.2 (.inr c2), Bool.true_and]
        simp only [c2, if_true, Int.reduceEq, if_false]; exact h3
      · have hf : isBitB (s[n]) = false := by
          rw [Bool.eq_false_iff]; intro hc
          rcases hi.1 hc with hc | hc
          · exact c1 hc
          · exact c2 hc
        simp only [hf, Bool.false_and, c1, c2, if_false]
        exact Ev.now _
theorem l01Bits_ev (s : ByteArray) (hn : s.size ≤ 1099511627776) : Ev (fun k => spec_l01Bits.f k s) (bitsB s) := by
  have h := l01Bits_l0 s hn s.size 0 (by omega)
  exact h

/-! eqInt64S -/
theorem eqInt64S_l0 (xs ys : List Int) (hl : xs.length = ys.length) (hn : xs.length ≤ 1099511627776) : ∀ d n, n + d = xs.length → Ev (fun k => laws_eqInt64S.l0 k xs ys (n : Int)) (decide (xs.drop n = ys.drop n)) := by
  intro d
  induction d with
  | zero =>
    intro n h
    apply Ev.succ
    have h1 : ¬ ((n : Int) < (xs.length : Int)) := by omega
    have h2 : xs.drop n = [] := List.drop_eq_nil_of_le (by omega)
    have h3 : ys.drop n = [] := List.drop_eq_nil_of_le (by omega)
    simp only [laws_eqInt64S.l0, h1, if_false, h2, h3, decide_true]
    exact Ev.now true
  | succ d ih =>
    intro n h
    apply Ev.succ
    have h1 : (n : Int) < (xs.length : Int) := by omega
    have h1' : (n : Int) < (ys.length : Int) := by omega
    have h2 : (0 : Int) ≤ (n : Int) := by omega
    have h3 := ih (n + 1) (by omega)
    rw [drop_rd (show n < xs.length by omega), drop_rd (show n < ys.length by omega)]
    simp only [laws_eqInt64S.l0, h1, h1', h2, if_true, w64_succ (show n < 9223372036854775807 by omega), List.cons.injEq]
    by_cases hc : rd xs (n : Int) = rd ys (n : Int)
    · simp only [hc, if_true, true_and]; exact h3
    · simp only [hc, if_false, false_and, decide_false]; exact Ev.now false
theorem eqInt64S_ev (xs ys : List Int) (hn : xs.length ≤ 1099511627776) : Ev (fun k => laws_eqInt64S.f k xs ys) (decide (xs = ys)) := by
  unfold laws_eqInt64S.f
  by_cases hl : xs.length = ys.length
  · have h1 : (xs.length : Int) = (ys.length : Int) := by omega
    simp only [h1, if_true]
    have h := eqInt64S_l0 xs ys hl hn xs.length 0 (by omega)
    exact h
  · have h1 : ¬ (xs.length : Int) = (ys.length : Int) := by omega
    have h2 : ¬ xs = ys := fun h => hl (by rw [h])
    simp only [h1, if_false, h2, decide_false]
    exact Ev.now false
theorem eqInt64S_same (xs : List Int) (hn : xs.length ≤ 1099511627776) : Ev (fun k => laws_eqInt64S.f k xs xs) true := by
  have h := eqInt64S_ev xs xs hn
  rw [decide_eq_true rfl] at h
  exact h

/-! markInt64S -/
theorem markInt64S_l0 (m : Int) (hm : 0 ≤ m) (hm2 : m ≤ 4611686018427387904) : ∀ (d : Nat) (ws xs : List Int) (n : Nat), ws.length = n → xs.length = d → n + d ≤ 1099511627776 → Ev (fun k => laws_markInt64S.l0 k (ws ++ xs) (m + n) (n : Int)) (m + n + d, ws ++ upFrom (m + n) d) := by
  intro d
  induction d with
  | zero =>
    intro ws xs n h hx hn
    apply Ev.succ
    obtain rfl : xs = [] := List.eq_nil_of_length_eq_zero hx
    have h1 : ¬ ((n : Int) < ((ws ++ ([] : List Int)).length : Int)) := by simp; omega
    simp only [laws_markInt64S.l0, h1, if_false, upFrom]
    exact Ev.of (fun _ => LeO.refl _) (k := 0) (by simp)
  | succ d ih =>
    intro ws xs n h hx hn
    apply Ev.succ
    obtain ⟨x, xs, rfl⟩ : ∃ x ys, xs = x :: ys := by
      cases xs with
      | nil => simp at hx
      | cons x ys => exact ⟨x, ys, rfl⟩
    have h1 : ((n : Int) < ((ws ++ x :: xs).length : Int)) := by simp; omega
    have h2 : (0 : Int) ≤ (n : Int) := by omega
    have h3 := ih (ws ++ [m + n]) xs (n + 1) (by simp [h]) (by simpa using hx) (by omega)
    have h5 : wrap64 (m + n + 1) = m + ((n + 1 : Nat) : Int) := by rw [w64 (by omega) (by omega)]; omega
    simp only [laws_markInt64S.l0, h1, h2, if_true, Int.toNat_natCast, set_mid _ _ _ _ _ h, h5, w64_succ (show n < 9223372036854775807 by omega)]
    have e1 : ws ++ [m + (n : Int)] ++ xs = ws ++ (m + n) :: xs := by simp
    have e2 : ws ++ [m + (n : Int)] ++ upFrom (m + ((n + 1 : Nat) : Int)) d = ws ++ upFrom (m + n) (d + 1) := by
      rw [upFrom, List.append_assoc]
      have e3 : m + ((n + 1 : Nat) : Int) = m + n + 1 := by omega
      rw [e3]; rfl
    have e4 : m + ((n + 1 : Nat) : Int) + (d : Int) = m + n + ((d + 1 : Nat) : Int) := by omega
    rw [e1, e2, e4] at h3
    exact h3
theorem markInt64S_ev (xs : List Int) (m : Int) (hm : 0 ≤ m) (hm2 : m ≤ 4611686018427387904) (hn : xs.length ≤ 1099511627776) : Ev (fun k => laws_markInt64S.f k xs m) (m + (xs.length : Int), upFrom m xs.length) := by
  have h := markInt64S_l0 m hm hm2 xs.length [] xs 0 rfl rfl (by omega)
  have e : m + ((0 : Nat) : Int) = m := by omega
  rw [e] at h
  exact h

/-! heldInt64S -/
theorem heldInt64S_l0 (m : Int) (hm : 0 ≤ m) (hm2 : m ≤ 4611686018427387904) : ∀ (d : Nat) (ws : List Int) (n : Nat), ws.length = n → n + d ≤ 1099511627776 → Ev (fun k => laws_heldInt64S.l0 k (ws ++ upFrom (m + n) d) (m + n) (n : Int)) (m + n + d) := by
  intro d
  induction d with
  | zero =>
    intro ws n h hn
    apply Ev.succ
    have h1 : ¬ ((n : Int) < ((ws ++ upFrom (m + n) 0).length : Int)) := by simp [upFrom]; omega
    simp only [laws_heldInt64S.l0, h1, if_false]
    exact Ev.of (fun _ => LeO.refl _) (k := 0) (by simp)
  | succ d ih =>
    intro ws n h hn
    apply Ev.succ
    have h1 : ((n : Int) < ((ws ++ upFrom (m + n) (d + 1)).length : Int)) := by simp [upFrom_length]; omega
    have h2 : (0 : Int) ≤ (n : Int) := by omega
    have h3 := ih (ws ++ [m + n]) (n + 1) (by simp [h]) (by omega)
    have h5 : wrap64 (m + n + 1) = m + ((n + 1 : Nat) : Int) := by rw [w64 (by omega) (by omega)]; omega
    have h6 : rd (ws ++ upFrom (m + n) (d + 1)) (n : Int) = m + n := by
      rw [rd_nat, List.getD_eq_getElem?_getD, List.getElem?_append_right (by omega), h, Nat.sub_self]; rfl
    simp only [laws_heldInt64S.l0, h1, h2, if_true, h5, h6, w64_succ (show n < 9223372036854775807 by omega)]
    have e2 : ws ++ [m + (n : Int)] ++ upFrom (m + ((n + 1 : Nat) : Int)) d = ws ++ upFrom (m + n) (d + 1) := by
      rw [upFrom, List.append_assoc]
      have e3 : m + ((n + 1 : Nat) : Int) = m + n + 1 := by omega
      rw [e3]; rfl
    have e4 : m + ((n + 1 : Nat) : Int) + (d : Int) = m + n + ((d + 1 : Nat) : Int) := by omega
    rw [e2, e4] at h3
    exact h3
theorem heldInt64S_ev (m : Int) (l : Nat) (hm : 0 ≤ m) (hm2 : m ≤ 4611686018427387904) (hn : l ≤ 1099511627776) : Ev (fun k => laws_heldInt64S.f k (upFrom m l) m) (m + (l : Int)) := by
  have h := heldInt64S_l0 m hm hm2 l [] 0 rfl (by omega)
  have e : m + ((0 : Nat) : Int) = m := by omega
  rw [e] at h
  exact h

theorem LO_spec (kind : Int) (t : ByteArray) (ht : t.size ≤ 1048576) : Ev (fun k => spec_LevelsOf.f k kind t) (LO_ans kind t) := by
  unfold spec_LevelsOf.f LO_ans
  refine Ev.bind (Ev.const (l10Kind_eq kind)) ?_
  by_cases h1 : kindB kind = true
  · refine Ev.cond (fun _ => ?_) (fun h' => absurd h1 h')
    refine Ev.bind (l01Bits_ev t (by omega)) ?_
    by_cases h2 : bitsB t = true
    · refine Ev.cond (fun _ => ?_) (fun h' => absurd h2 h')
      rw [if_pos ⟨h1, h2⟩]
      exact Ev.bind (l10Levels_ev kind h1 t ht) (Ev.now _)
    · refine Ev.cond (fun h' => absurd h' h2) (fun _ => ?_)
      rw [if_neg (fun h => h2 h.2)]
      exact Ev.now _
  · refine Ev.cond (fun h' => absurd h' h1) (fun _ => ?_)
    rw [if_neg (fun h => h1 h.1)]
    exact Ev.now _
theorem FnExactLevelsOf : laws_FnExactLevelsOf.Pure := by
  intro kind t h0 h1
  refine Ev.rounds ?_
  unfold laws_FnExactLevelsOf.f
  by_cases hl : (t.size : Int) > 1048576
  · simp only [hl, if_true]; exact Ev.now _
  have hn : t.size ≤ 1048576 := by omega
  have hr0 := LO_len kind t
  have hr : (LO_ans kind t).1.length ≤ 1099511627776 := by omega
  have hs := LO_spec kind t hn
  have hi := LO_impl kind t hn
  generalize LO_ans kind t = a at hr0 hr hs hi
  refine Ev.cond (fun h' => absurd h' hl) (fun _ => ?_)
  refine Ev.bind hs (Ev.bind hi (Ev.bind (eqInt64S_same _ hr) ?_))
  refine Ev.cond (fun _ => ?_) (fun h' => absurd rfl h')
  rw [bne_self_eq_false]
  refine Ev.succ ?_
  simp only [laws_FnExactLevelsOf.j0]
  refine Ev.cond (fun h' => absurd h' (by decide)) (fun _ => ?_)
  have hneg : ¬ (1 + (a.1.length : Int) < 0) := by omega
  refine Ev.bind (markInt64S_ev _ 1 (by omega) (by omega) hr) (Ev.bind (heldInt64S_ev 1 _ (by omega) (by omega) hr) ?_)
  refine Ev.cond (fun h' => absurd h' hneg) (fun _ => ?_)
  refine Ev.cond (fun _ => ?_) (fun h' => absurd rfl h')
  refine Ev.bind hi (Ev.bind (eqInt64S_same _ hr) ?_)
  refine Ev.cond (fun _ => ?_) (fun h' => absurd rfl h')
  rw [bne_self_eq_false]
  refine Ev.succ ?_
  simp only [laws_FnExactLevelsOf.j1]
  refine Ev.cond (fun h' => absurd h' (by decide)) (fun _ => ?_)
  refine Ev.bind (heldInt64S_ev 1 _ (by omega) (by omega) hr) ?_
  refine Ev.cond (fun h' => absurd h' hneg) (fun _ => ?_)
  refine Ev.cond (fun _ => Ev.now _) (fun h' => absurd rfl h')

end Go.Proofs.YtgofcgjpmiojjaaDoor.Pure
