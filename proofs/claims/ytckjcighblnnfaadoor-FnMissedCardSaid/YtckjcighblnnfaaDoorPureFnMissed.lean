/- As many ways of changing at most three bits are missed as are counted, and the least number that can be missed is the first one with such ways. -/
import Derived.Test.YtckjcighblnnfaaDoorQFnMissedx3
import Derived.Test.YtckjcighblnnfaaDoorBase
import Derived.Test.YtckjcighblnnfaaDoorPoly
import Derived.Test.YtckjcighblnnfaaDoorLin
namespace Go.Proofs.YtckjcighblnnfaaDoor.Pure
open Go.RowKit Go.Proofs.YtckjcighblnnfaaDoor.QFnMissed Go.Proofs.YtckjcighblnnfaaDoor.Base Go.Proofs.YtckjcighblnnfaaDoorW.PrintWords Go.Proofs.YtckjcighblnnfaaDoorW.PrintLast Go.Proofs.YtckjcighblnnfaaDoorW.PrintMore
open Go.Proofs.YtckjcighblnnfaaDoor.Poly
open Go.Proofs.YtckjcighblnnfaaDoor.Lin
set_option linter.unusedVariables false
set_option linter.unusedSimpArgs false

/-! within -/
theorem within_eq (a b c : Int) : impl_within.f a b c = some (decide (b ≤ a ∧ a ≤ c)) := by
  unfold impl_within.f
  by_cases h : b ≤ a
  · simp [h, ge_iff_le]
  · simp [h, ge_iff_le]

/-! l00In -/

/-! degree -/
theorem IsCheck_eq (p : Int) : impl_IsCheck.f p = some (decide (2 ≤ p ∧ p ≤ 131071)) := by
  unfold impl_IsCheck.f
  rw [within_eq]; rfl
theorem p_lt64 {p : Nat} (h : p ≤ 131071) : p < 2 ^ 64 := Nat.lt_of_le_of_lt h (by decide)
theorem deg16 {p : Nat} (h1 : 2 ≤ p) (h2 : p ≤ 131071) : deg p ≤ 16 := deg_le (by omega) (p_lt64 h2) (Nat.lt_of_le_of_lt h2 (by decide))
theorem pow16 {p : Nat} (h1 : 2 ≤ p) (h2 : p ≤ 131071) : 2 ^ deg p ≤ 65536 := by
  have := Nat.pow_le_pow_right (show 0 < 2 by decide) (deg16 h1 h2)
  simpa using this
theorem degree_eq {p : Nat} (h1 : 2 ≤ p) (h2 : p ≤ 131071) : impl_degree.f (p : Int) = some (deg p : Int) := by
  unfold impl_degree.f bits_Len64.f
  rw [u64_nat (show p < 2 ^ 63 by exact Nat.lt_of_le_of_lt h2 (by decide)), if_pos ⟨by omega, by omega⟩, Option.bind_some, Int.toNat_natCast, bitLen_deg (by omega) (p_lt64 h2)]
  have := deg16 h1 h2
  rw [w64 (by omega) (by omega)]
  congr 1; omega
theorem times_eq {p r : Nat} (h1 : 2 ≤ p) (h2 : p ≤ 131071) (hr : r < 2 ^ deg p) : impl_times.f (p : Int) (r : Int) = some (T p r : Int) := by
  unfold impl_times.f
  have h16 := deg16 h1 h2
  have hp := pow16 h1 h2
  rw [degree_eq h1 h2, Option.bind_some, if_pos (by omega)]
  have e1 : wrap64 ((r : Int) * 2) = ((2 * r : Nat) : Int) := by rw [w64 (by omega) (by omega)]; omega
  rw [e1, shr_nat _ _ (by omega), bits_xor (by omega) (by omega)]
  unfold T
  by_cases h : 2 * r / 2 ^ deg p = 1
  · have h' : ((2 * r / 2 ^ deg p : Nat) : Int) = 1 := by rw [h]; rfl
    rw [if_pos h', if_pos h]
  · have h' : ¬ ((2 * r / 2 ^ deg p : Nat) : Int) = 1 := by omega
    rw [if_neg h', if_neg h]

/-! remainderI -/
theorem remainder_implL {p : Nat} (h1 : 2 ≤ p) (h2 : p ≤ 131071) (s : ByteArray) (hn : s.size ≤ 1099511627776) (hb : s.data.toList.all isBitB = true) : ∀ (d n r : Nat), n + d = s.size → r < 2 ^ deg p →
    Ev (fun k => impl_remainder.l0 k (p : Int) s (r : Int) (s.size : Int) (n : Int)) ((remN p (s.data.toList.drop n) r : Nat) : Int) := by
  intro d
  induction d with
  | zero =>
    intro n r h hr
    have c1 : ¬ ((n : Int) < (s.size : Int)) := by omega
    have c2 : s.data.toList.drop n = [] := List.drop_eq_nil_of_le (by rw [size_data]; omega)
    rw [c2]
    apply Ev.succ
    simp only [impl_remainder.l0, c1, if_false, remN]; exact Ev.now _
  | succ d ih =>
    intro n r h hr
    have hl : n < s.size := by omega
    have c1 : (n : Int) < (s.size : Int) := by omega
    have c2 : (0 : Int) ≤ (n : Int) := by omega
    have hT := T_lt h1 (p_lt64 h2) hr
    have hp := pow16 h1 h2
    have hd := deg_pos h1 (p_lt64 h2)
    have hp2 : 2 ≤ 2 ^ deg p := by
      have := Nat.pow_le_pow_right (show 0 < 2 by decide) hd
      simpa using this
    have hw := w64_succ (show n < 9223372036854775807 by omega)
    have hbt := bt_nat s n hl
    have hbit : isBitB (s[n]) = true := by
      rw [List.all_eq_true] at hb
      exact hb _ (by rw [← data_get hl]; exact List.getElem_mem _)
    rw [drop_data hl, remN]
    by_cases c : s[n] = 49
    · have c3 : bt s (n : Int) = 49 := by rw [hbt, c]; rfl
      have hx : T p r ^^^ 1 < 2 ^ deg p := Nat.xor_lt_two_pow hT (by omega)
      have h3 := ih (n + 1) (T p r ^^^ 1) (by omega) hx
      rw [if_pos c]
      apply Ev.succ
      have e : Go.bits .xor .i64 (T p r : Int) 1 = ((T p r ^^^ 1 : Nat) : Int) := bits_xor (b := 1) (by omega) (by omega)
      simp only [impl_remainder.l0, c1, c2, if_true, times_eq h1 h2 hr, Option.bind_some, c3, e, hw]; exact h3
    · have c48 : bt s (n : Int) = 48 := by
        rcases (isBit_iff _).1 hbit with h | h
        · rw [hbt]; exact h
        · exact absurd (UInt8.toNat_inj.1 (by show (s[n]).toNat = 49; omega)) c
      have h3 := ih (n + 1) (T p r ^^^ 0) (by omega) (by rw [Nat.xor_zero]; exact hT)
      rw [if_neg c]
      apply Ev.succ
      rw [Nat.xor_zero] at h3 ⊢
      simp only [impl_remainder.l0, c1, c2, if_true, times_eq h1 h2 hr, Option.bind_some, c48, Int.reduceEq, if_false, hw]; exact h3
theorem remainder_impl {p : Nat} (h1 : 2 ≤ p) (h2 : p ≤ 131071) (s : ByteArray) (hn : s.size ≤ 1099511627776) (hb : s.data.toList.all isBitB = true) :
    Ev (fun k => impl_remainder.f k (p : Int) s) ((remN p s.data.toList 0 : Nat) : Int) :=
  remainder_implL h1 h2 s hn hb s.size 0 0 (by omega) (Nat.two_pow_pos _)

/-! IsBits -/
theorem trim_bits (s : ByteArray) (h : s.size ≤ 9223372036854775807) : strings_Trim.f s (⟨#[48, 49]⟩ : ByteArray) = some ⟨(Lib.trimS s.data.toList [48, 49]).toArray⟩ := by
  unfold strings_Trim.f
  rw [if_pos ⟨h, by decide, by decide⟩]
theorem areBits_eq (s : ByteArray) (h : s.size ≤ 9223372036854775807) : impl_areBits.f s = some (s.data.toList.all isBitB) := by
  unfold impl_areBits.f
  rw [trim_bits s h, Option.bind_some]
  congr 1
  have e1 : (⟨(Lib.trimS s.data.toList [48, 49]).toArray⟩ : ByteArray).toList = Lib.trimS s.data.toList [48, 49] := by rw [Lib.toList_data]
  rw [e1, Bool.eq_iff_iff, beq_iff_eq, trimS_nil]
  have e2 : (fun b => ([48, 49] : List UInt8).contains b) = isBitB := funext contains_bits
  rw [e2]
theorem IsBits_eq (s : ByteArray) (h : s.size ≤ 9223372036854775807) : impl_IsBits.f s = some (bitsB s) := by
  unfold impl_IsBits.f bitsB
  by_cases h4 : s.size ≤ 400
  · have h4' : (s.size : Int) ≤ 400 := by omega
    simp only [h4', if_true, areBits_eq s h, Option.bind_some, h4, decide_true, Bool.and_true]
  · have h4' : ¬ (s.size : Int) ≤ 400 := by omega
    simp only [h4', if_false, h4, decide_false, Bool.and_false]

/-! HasCheckI -/
theorem HasCheck_impl {p : Nat} (h1 : 2 ≤ p) (h2 : p ≤ 131071) (s : ByteArray) (hn : s.size ≤ 400) (hb : s.data.toList.all isBitB = true) :
    Ev (fun k => impl_HasCheck.f k (p : Int) s) (((remN p s.data.toList 0 : Nat) : Int) == 0) := by
  have hbb : bitsB s = true := by unfold bitsB; rw [hb, decide_eq_true hn]; rfl
  have c1 := remainder_impl h1 h2 s (by omega) hb
  unfold impl_HasCheck.f
  refine Ev.bind (Ev.const (IsCheck_eq _)) ?_
  refine Ev.cond (fun _ => ?_) (fun h' => absurd (decide_eq_true ⟨by omega, by omega⟩) h')
  refine Ev.bind (Ev.const (IsBits_eq s (by omega))) ?_
  refine Ev.cond (fun _ => ?_) (fun h' => absurd hbb h')
  exact Ev.bind c1 (Ev.now _)

/-! missed -/
theorem nways_step {l : List Nat} {n c r : Nat} (h : n < l.length) (hc : c ≠ 0) : nways (l.drop n) c r = nways (l.drop (n + 1)) (c - 1) (r ^^^ l[n]) + nways (l.drop (n + 1)) c r := by
  rw [List.drop_eq_getElem_cons h, nways, if_neg hc]
theorem nways_nil {c r : Nat} (hc : c ≠ 0) : nways [] c r = 0 := by
  unfold nways
  rw [if_neg (fun h => hc h.1)]
theorem missed_ev : ∀ (c : Nat) (l : List Nat) (r : Nat), c ≤ 4 → l.length ≤ 32 → (∀ x ∈ l, x < 65536) → r < 65536 → Ev (fun k => impl_missed.f k (castL l) (c : Int) (r : Int)) (nways l c r) := by
  intro c
  induction c with
  | zero =>
    intro l r _ _ _ _
    apply Ev.succ
    rw [nways_zero]
    simp only [impl_missed.f, Int.natCast_zero, if_true]
    by_cases h : r = 0
    · have h' : (r : Int) = 0 := by omega
      simp only [h, h', if_true]; exact Ev.now _
    · have h' : ¬ (r : Int) = 0 := by omega
      simp only [h, h', if_false]; exact Ev.now _
  | succ c ih =>
    intro l r hc hl hx hr
    apply Ev.succ
    have h0 : ¬ ((c + 1 : Nat) : Int) = 0 := by omega
    simp only [impl_missed.f, h0, if_false]
    have key : ∀ (d n : Nat) (s : Int), n + d = l.length → 0 ≤ s → s + nways (l.drop n) (c + 1) r ≤ 4294967296 →
        Ev (fun k => impl_missed.l0 k (castL l) ((c + 1 : Nat) : Int) (r : Int) s ((castL l).length : Int) (n : Int)) (s + nways (l.drop n) (c + 1) r) := by
      intro d
      induction d with
      | zero =>
        intro n s h hs0 hs
        have h1 : ¬ ((n : Int) < ((castL l).length : Int)) := by rw [castL_length]; omega
        have h2 : l.drop n = [] := List.drop_eq_nil_of_le (by omega)
        apply Ev.succ
        rw [h2, nways_nil (by omega), Int.add_zero]
        simp only [impl_missed.l0, h1, if_false]; exact Ev.now _
      | succ d ihd =>
        intro n s h hs0 hs
        have hlt : n < l.length := by omega
        have h1 : (n : Int) < ((castL l).length : Int) := by rw [castL_length]; omega
        have hw := w64_succ (show n < 9223372036854775807 by omega)
        have h2 : (0 : Int) ≤ ((n + 1 : Nat) : Int) := by omega
        have h3 : ((n + 1 : Nat) : Int) ≤ ((castL l).length : Int) := by rw [castL_length]; omega
        have h4 : (0 : Int) ≤ (n : Int) := by omega
        have e1 : wrap64 (((c + 1 : Nat) : Int) - 1) = (c : Int) := by rw [w64 (by omega) (by omega)]; omega
        have hm : l[n] < 65536 := hx _ (List.getElem_mem hlt)
        have e2 : Go.bits .xor .i64 (r : Int) (rd (castL l) (n : Int)) = ((r ^^^ l[n] : Nat) : Int) := by
          rw [rd_castL hlt]; exact bits_xor (by omega) (by omega)
        have hb := nways_bound (l.drop (n + 1)) c (r ^^^ l[n])
        have hb2 := nways_bound (l.drop (n + 1)) (c + 1) r
        have hst := nways_step (r := r) hlt (show c + 1 ≠ 0 by omega)
        rw [Nat.add_sub_cancel] at hst
        have hrec := ih (l.drop (n + 1)) (r ^^^ l[n]) (by omega) (by rw [List.length_drop]; omega) (fun x h => hx x (List.mem_of_mem_drop h)) (Nat.xor_lt_two_pow (n := 16) hr hm)
        have hnext := ihd (n + 1) (s + nways (l.drop (n + 1)) c (r ^^^ l[n])) (by omega) (by omega) (by rw [hst] at hs; omega)
        have e3 : wrap64 (s + nways (l.drop (n + 1)) c (r ^^^ l[n])) = s + nways (l.drop (n + 1)) c (r ^^^ l[n]) := w64 (by omega) (by rw [hst] at hs; omega)
        apply Ev.succ
        simp only [impl_missed.l0, h1, if_true, hw, h2, h3, h4, e1, e2, Int.toNat_natCast, castL_drop]
        refine Ev.bind hrec ?_
        simp only [e3]
        rw [hst, ← Int.add_assoc]
        exact hnext
    have hb := nways_bound l (c + 1) r
    have hp : 2 ^ l.length ≤ 4294967296 := by
      have := Nat.pow_le_pow_right (show 0 < 2 by decide) hl
      simpa using this
    have h := key l.length 0 0 (by omega) (by omega) (by rw [List.drop_zero]; omega)
    rw [Int.zero_add, List.drop_zero] at h
    exact h

/-! CountMissed -/
theorem one_lt {p : Nat} (h1 : 2 ≤ p) (h2 : p ≤ 131071) : 1 < 2 ^ deg p := by
  have := Nat.pow_le_pow_right (show 0 < 2 by decide) (deg_pos h1 (p_lt64 h2))
  simp at this; omega
def cntN (p len c : Nat) : Int := nways (pows p len 1) c 0
theorem cntN_bound (p len c : Nat) (h : len ≤ 32) : 0 ≤ cntN p len c ∧ cntN p len c ≤ 4294967296 := by
  have hb := nways_bound (pows p len 1) c 0
  rw [pows_length] at hb
  have := Nat.pow_le_pow_right (show 0 < 2 by decide) h
  unfold cntN
  simp at this
  omega
theorem pows_snoc (p : Nat) : ∀ (n r : Nat), pows p (n + 1) r = pows p n r ++ [iterT p n r] := by
  intro n
  induction n with
  | zero => intro r; rfl
  | succ n ih =>
    intro r
    rw [pows, ih (T p r)]; rfl
theorem iterT_succ (p : Nat) : ∀ (n r : Nat), iterT p (n + 1) r = T p (iterT p n r) := by
  intro n
  induction n with
  | zero => intro r; rfl
  | succ n ih => intro r; rw [iterT, ih (T p r)]; rfl
theorem iterT_lt {p : Nat} (h1 : 2 ≤ p) (h2 : p < 2 ^ 64) : ∀ (n r : Nat), r < 2 ^ deg p → iterT p n r < 2 ^ deg p := by
  intro n
  induction n with
  | zero => intro r hr; exact hr
  | succ n ih => intro r hr; exact ih _ (T_lt h1 h2 hr)
theorem count_l0 {p : Nat} (h1 : 2 ≤ p) (h2 : p ≤ 131071) (len c : Nat) (hlen : len ≤ 32) (hc : c ≤ 4) : ∀ (d n : Nat), n + d = len →
    Ev (fun k => impl_CountMissed.l0 k (p : Int) (c : Int) (castL (pows p n 1)) ((iterT p n 1 : Nat) : Int) (len : Int) (n : Int)) (cntN p len c, true) := by
  have hp := pow16 h1 h2
  intro d
  induction d with
  | zero =>
    intro n h
    obtain rfl : n = len := by omega
    have c1 : ¬ ((n : Int) < (n : Int)) := by omega
    apply Ev.succ
    simp only [impl_CountMissed.l0, c1, if_false]
    refine Ev.bind (missed_ev c (pows p n 1) 0 hc (by rw [pows_length]; exact hlen) (fun x hx => ?_) (by omega)) (Ev.now _)
    have := pows_lt h1 (p_lt64 h2) n 1 (one_lt h1 h2) x hx
    omega
  | succ d ih =>
    intro n h
    have c1 : (n : Int) < (len : Int) := by omega
    have c2 : (castL (pows p n 1)).length < 17592186044416 := by rw [castL_length, pows_length]; omega
    have h3 := ih (n + 1) (by omega)
    have hw := w64_succ (show n < 9223372036854775807 by omega)
    have hr := iterT_lt h1 (p_lt64 h2) n 1 (one_lt h1 h2)
    have e : castL (pows p (n + 1) 1) = castL (pows p n 1) ++ [((iterT p n 1 : Nat) : Int)] := by rw [pows_snoc]; simp [castL]
    rw [e, iterT_succ] at h3
    apply Ev.succ
    simp only [impl_CountMissed.l0, c1, c2, if_true, times_eq h1 h2 hr, Option.bind_some, hw]
    exact h3
def cntB (p len c : Int) : Bool := decide (2 ≤ p ∧ p ≤ 131071) && decide (1 ≤ len ∧ len ≤ 32) && decide (1 ≤ c ∧ c ≤ 4)
theorem CountMissed_impl (p len c : Int) : Ev (fun k => impl_CountMissed.f k p len c) (if cntB p len c = true then (cntN p.toNat len.toNat c.toNat, true) else (0, false)) := by
  unfold impl_CountMissed.f cntB
  simp only [IsCheck_eq, within_eq, Option.bind_some]
  by_cases c1 : 2 ≤ p ∧ p ≤ 131071
  · by_cases c2 : 1 ≤ len ∧ len ≤ 32
    · by_cases c3 : 1 ≤ c ∧ c ≤ 4
      · simp only [c1, c2, c3, and_self, decide_true, Bool.and_self, if_true, Bool.not_true]
        obtain ⟨P, rfl⟩ := Int.eq_ofNat_of_zero_le (show 0 ≤ p by omega)
        obtain ⟨L, rfl⟩ := Int.eq_ofNat_of_zero_le (show 0 ≤ len by omega)
        obtain ⟨C, rfl⟩ := Int.eq_ofNat_of_zero_le (show 0 ≤ c by omega)
        apply Ev.succ
        simp only [impl_CountMissed.j0, Bool.false_eq_true, if_false, Int.toNat_natCast]
        exact count_l0 (p := P) (by omega) (by omega) L C (by omega) (by omega) L 0 (by omega)
      · simp only [c1, c2, c3, and_self, decide_true, decide_false, Bool.and_false, if_true, Bool.not_false, Bool.false_eq_true, if_false]
        apply Ev.succ
        simp only [impl_CountMissed.j0, if_true]; exact Ev.now _
    · simp only [c1, c2, and_self, decide_true, decide_false, Bool.and_false, Bool.false_and, if_true, Bool.false_eq_true, if_false]
      apply Ev.succ
      simp only [impl_CountMissed.j0, if_true]; exact Ev.now _
  · simp only [c1, decide_false, Bool.false_and, Bool.false_eq_true, if_false]
    apply Ev.succ
    simp only [impl_CountMissed.j0, if_true]; exact Ev.now _

/-! r8 -/
theorem wf_u8 {x : Int} (h : (Lit.int .u8 x).wf = true) : 0 ≤ x ∧ x ≤ 255 := by
  have h1 : decide (IntKind.min .u8 ≤ x) = true ∧ decide (x ≤ IntKind.max .u8) = true := by
    simpa [Lit.wf] using h
  obtain ⟨ha, hb⟩ := h1
  have ha := of_decide_eq_true ha
  have hb := of_decide_eq_true hb
  have e1 : IntKind.min .u8 = 0 := by decide
  have e2 : IntKind.max .u8 = 255 := by decide
  rw [e1] at ha
  rw [e2] at hb
  exact ⟨ha, hb⟩
theorem r8At_eq (l : List Int) (h : ∀ x ∈ l, (Lit.int .u8 x).wf = true) (a n : Int) (ha : 0 ≤ a) (hn : 1 ≤ n) : ∃ t, laws_r8At.f l a n = some t ∧ 0 ≤ t ∧ t < n := by
  unfold laws_r8At.f
  by_cases h1 : n ≤ 1
  · exact ⟨0, by rw [if_pos h1], by omega, by omega⟩
  by_cases h2 : a ≥ (l.length : Int)
  · exact ⟨0, by rw [if_neg h1, if_pos h2], by omega, by omega⟩
  obtain ⟨m, rfl⟩ := Int.eq_ofNat_of_zero_le ha
  have hm : m < l.length := by omega
  have hx := wf_u8 (h _ (rd_mem hm))
  have h0 : 0 ≤ Int.tmod (rd l (m : Int)) n := Int.tmod_nonneg _ hx.1
  have h3 : Int.tmod (rd l (m : Int)) n < n := Int.tmod_lt_of_pos _ (by omega)
  refine ⟨Int.tmod (rd l (m : Int)) n, ?_, h0, h3⟩
  rw [if_neg h1, if_neg h2, if_pos (by omega), if_pos (by omega), if_neg (by omega), w64 (by omega) (by omega)]
theorem r8Long_eq (l m : List Int) : ∃ b, laws_r8Long.f l m = some b ∧ (b = false → l.length ≤ 48 ∧ m.length ≤ 48) := by
  unfold laws_r8Long.f
  by_cases h : (l.length : Int) > 48
  · exact ⟨true, by rw [if_pos h], by simp⟩
  · refine ⟨decide ((m.length : Int) > 48), by rw [if_neg h], fun h2 => ?_⟩
    have h3 := of_decide_eq_false h2
    omega

/-! src -/
theorem u64_mod (z : Int) : IntKind.u64.wrap z = z % 18446744073709551616 := by simp [IntKind.wrap, IntKind.bits, IntKind.signed]
theorem u64_and255 (z : Int) : 0 ≤ wrap64 (Go.bits .and .u64 ((IntKind.u64.wrap z) / 1099511627776) 255) ∧ wrap64 (Go.bits .and .u64 ((IntKind.u64.wrap z) / 1099511627776) 255) ≤ 255 := by
  obtain ⟨Y, hY⟩ := Int.eq_ofNat_of_zero_le (show 0 ≤ (IntKind.u64.wrap z) / 1099511627776 by rw [u64_mod]; omega)
  have hlt : Y < 18446744073709551616 := by rw [u64_mod] at hY; omega
  rw [hY]
  have h2 : Go.bits .and .u64 (Y : Int) 255 = ((Y &&& 255 : Nat) : Int) := bits_and_u64_nat Y 255 hlt (by decide)
  rw [h2]
  have h3 : Y &&& 255 ≤ 255 := Nat.and_le_right
  rw [w64 (by omega) (by omega)]
  omega
theorem src_next (l : List Int) (h : ∀ x ∈ l, (Lit.int .u8 x).wf = true) (p : Nat) (hs : Int) (hp : p < 1099511627776) : ∃ v hs', spec_l00Src_next.f l (p : Int) hs = some (v, ((p + 1 : Nat) : Int), hs') ∧ 0 ≤ v ∧ v ≤ 255 := by
  have hw : wrap64 ((p : Int) + 1) = ((p + 1 : Nat) : Int) := w64_succ (by omega)
  unfold spec_l00Src_next.f
  by_cases h1 : p < l.length
  · have hx := wf_u8 (h _ (rd_mem h1))
    rw [if_pos (show (p : Int) < (l.length : Int) by omega), if_pos (show (0 : Int) ≤ (p : Int) by omega), hw, if_pos (show ((p + 1 : Nat) : Int) ≤ (l.length : Int) by omega)]
    refine ⟨_, _, rfl, ?_⟩
    rw [w64 (by omega) (by omega)]
    exact hx
  · rw [if_neg (show ¬ (p : Int) < (l.length : Int) by omega), hw, if_neg (show ¬ ((p + 1 : Nat) : Int) ≤ (l.length : Int) by omega)]
    exact ⟨_, _, rfl, u64_and255 _⟩
theorem src_pick (l : List Int) (h : ∀ x ∈ l, (Lit.int .u8 x).wf = true) (p : Nat) (hs a : Int) (hp : p < 1099511627776) (ha : 2 ≤ a) (ha2 : a ≤ 200) : ∃ v hs', spec_l00Src_pick.f l (p : Int) hs a = some (v, ((p + 1 : Nat) : Int), hs') ∧ 0 ≤ v ∧ v < a := by
  obtain ⟨v, hs', h1, h2, h3⟩ := src_next l h p hs hp
  unfold spec_l00Src_pick.f
  rw [if_neg (by omega), h1, Option.bind_some, if_neg (by omega), if_neg (by omega)]
  exact ⟨_, _, rfl, Int.tmod_nonneg _ h2, Int.tmod_lt_of_pos _ (by omega)⟩

/-! R8Check -/
theorem R8Check_eq (l : List Int) (h : ∀ x ∈ l, (Lit.int .u8 x).wf = true) : ∃ p : Nat, spec_R8Check.f l = some (p : Int) ∧ 2 ≤ p ∧ p ≤ 127 := by
  obtain ⟨v, hs', h1, h2, h3⟩ := src_pick l h 0 0 126 (by omega) (by omega) (by omega)
  obtain ⟨v, rfl⟩ := Int.eq_ofNat_of_zero_le h2
  unfold spec_R8Check.f spec_l00From.f
  rw [Option.bind_some]
  show ∃ p : Nat, (spec_l00Src_pick.f l ((0 : Nat) : Int) 0 126).bind _ = some (p : Int) ∧ _
  rw [h1, Option.bind_some]
  refine ⟨v + 2, ?_, by omega, by omega⟩
  rw [w64 (by omega) (by omega)]
  congr 1
  omega

/-! strs -/
theorem str_size (l : List Int) : (strOfNums l).size = l.length := by
  show (strOfNums l).data.size = _
  simp [strOfNums]
theorem bt_str {xs : List Int} {k : Nat} (hk : k < xs.length) (h : 0 ≤ xs[k] ∧ xs[k] ≤ 255) : bt (strOfNums xs) (k : Int) = xs[k] := by
  have hk' : k < (strOfNums xs).size := by rw [str_size]; exact hk
  rw [bt_nat _ _ hk']
  have e : (strOfNums xs)[k]'hk' = UInt8.ofNat (xs[k]).toNat := by
    show (strOfNums xs).data[k]'_ = _
    simp [strOfNums]
  rw [e, UInt8.toNat_ofNat']
  omega
theorem all_bits_iff (s : ByteArray) : s.data.toList.all isBitB = true ↔ ∀ k : Nat, k < s.size → (bt s (k : Int) = 48 ∨ bt s (k : Int) = 49) := by
  rw [List.all_eq_true]
  constructor
  · intro h k hk
    rw [bt_nat s k hk]
    refine (isBit_iff _).1 (h _ ?_)
    rw [← data_get hk]; exact List.getElem_mem _
  · intro h b hb
    obtain ⟨k, hk, rfl⟩ := List.mem_iff_getElem.1 hb
    have hk' : k < s.size := by rw [← size_data]; exact hk
    rw [isBit_iff, data_get hk', ← bt_nat s k hk']
    exact h k hk'
theorem str_ext {s t : ByteArray} (h : s.size = t.size) (h2 : ∀ k : Nat, k < s.size → bt s (k : Int) = bt t (k : Int)) : s = t := by
  apply ByteArray.ext
  apply Array.ext
  · exact h
  · intro k h3 h4
    have e := h2 k h3
    rw [bt_nat s k h3, bt_nat t k h4] at e
    exact UInt8.toNat_inj.1 (by exact_mod_cast e)

/-! bitAt -/
theorem bit_at (x i : Nat) (hx : x < 2 ^ 62) (hi : i ≤ 63) : Go.bits .and .i64 (shr .i64 (x : Int) (i : Int)) 1 = ((x / 2 ^ i % 2 : Nat) : Int) := by
  rw [shr_nat _ _ hi]
  have e := bits_and (a := x / 2 ^ i) (b := 1) (Nat.lt_of_le_of_lt (Nat.div_le_self _ _) hx) (by decide)
  rw [Nat.and_one_is_mod] at e
  exact e
theorem shl_one {n : Nat} (h : n ≤ 61) : shl .i64 1 (n : Int) = ((2 ^ n : Nat) : Int) := by
  unfold shl
  have e : min (n : Int).toNat IntKind.i64.bits = n := by
    have : IntKind.i64.bits = 64 := rfl
    rw [this, Int.toNat_natCast]; omega
  have hlt : 2 ^ n < 2 ^ 62 := Nat.pow_lt_pow_right (by decide) (by omega)
  rw [e, Int.one_mul, IntKind.wrap_i64]
  have e2 : (2 : Int) ^ n = ((2 ^ n : Nat) : Int) := by push_cast; rfl
  rw [e2]
  generalize 2 ^ n = q at hlt ⊢
  omega

/-! rdset -/
theorem rd_set_same {xs : List Int} {s v : Int} (h0 : 0 ≤ s) (h : s < (xs.length : Int)) : rd (xs.set s.toNat v) s = v := by
  unfold rd
  rw [List.getD_eq_getElem?_getD, List.getElem?_set_self (by omega)]; rfl
theorem rd_set_ne {xs : List Int} {s t v : Int} (h0 : 0 ≤ s) (h1 : 0 ≤ t) (h : s ≠ t) : rd (xs.set s.toNat v) t = rd xs t := by
  unfold rd
  rw [List.getD_eq_getElem?_getD, List.getD_eq_getElem?_getD, List.getElem?_set_ne (by omega)]

theorem CMi (P L c : Nat) (h1 : 2 ≤ P) (h2 : P ≤ 127) (h3 : 1 ≤ L) (h4 : L ≤ 9) (h5 : 1 ≤ c) (h6 : c ≤ 4) : Ev (fun k => impl_CountMissed.f k (P : Int) (L : Int) (c : Int)) (cntN P L c, true) := by
  have h := CountMissed_impl (P : Int) (L : Int) (c : Int)
  have hb : cntB (P : Int) (L : Int) (c : Int) = true := by
    unfold cntB
    rw [decide_eq_true ⟨by omega, by omega⟩, decide_eq_true ⟨by omega, by omega⟩, decide_eq_true ⟨by omega, by omega⟩]; rfl
  rw [if_pos hb] at h
  simp only [Int.toNat_natCast] at h
  exact h
theorem LMi (P L : Nat) (h1 : 2 ≤ P) (h2 : P ≤ 127) (h3 : 1 ≤ L) (h4 : L ≤ 9) : ∀ (d c : Nat), 1 ≤ c → c + d = 5 → (∀ c', 1 ≤ c' → c' < c → ¬ cntN P L c' > 0) →
    ∃ (m : Nat) (one : Bool), Ev (fun k => impl_LeastMissed.l0 k (P : Int) (L : Int) (c : Int)) ((m : Int), one) ∧
      ((one = false ∧ ∀ c', 1 ≤ c' → c' ≤ 4 → ¬ cntN P L c' > 0) ∨ (one = true ∧ 1 ≤ m ∧ m ≤ 4 ∧ cntN P L m > 0 ∧ ∀ c', 1 ≤ c' → c' < m → ¬ cntN P L c' > 0)) := by
  intro d
  induction d with
  | zero =>
    intro c hc h hn
    have c1 : ¬ (c : Int) ≤ 4 := by omega
    refine ⟨0, false, Ev.succ ?_, .inl ⟨rfl, fun c' g1 g2 => hn c' g1 (by omega)⟩⟩
    simp only [impl_LeastMissed.l0]
    refine Ev.cond (fun h' => absurd h' c1) (fun _ => ?_)
    exact Ev.now _
  | succ d ih =>
    intro c hc h hn
    have c1 : (c : Int) ≤ 4 := by omega
    have hcm := CMi P L c h1 h2 h3 h4 hc (by omega)
    by_cases hp : cntN P L c > 0
    · refine ⟨c, true, Ev.succ ?_, .inr ⟨rfl, hc, by omega, hp, fun c' g1 g2 => hn c' g1 g2⟩⟩
      simp only [impl_LeastMissed.l0]
      refine Ev.cond (fun _ => ?_) (fun h' => absurd c1 h')
      refine Ev.bind hcm ?_
      refine Ev.cond (fun _ => ?_) (fun h' => absurd rfl h')
      refine Ev.cond (fun _ => ?_) (fun h' => absurd hp h')
      exact Ev.now _
    · obtain ⟨m, one, hm, hor⟩ := ih (c + 1) (by omega) (by omega) (by
        intro c' g1 g2
        by_cases e : c' = c
        · rw [e]; exact hp
        · exact hn c' g1 (by omega))
      refine ⟨m, one, Ev.succ ?_, hor⟩
      simp only [impl_LeastMissed.l0]
      refine Ev.cond (fun _ => ?_) (fun h' => absurd c1 h')
      refine Ev.bind hcm ?_
      refine Ev.cond (fun _ => ?_) (fun h' => absurd rfl h')
      refine Ev.cond (fun h' => absurd h' hp) (fun _ => ?_)
      rw [w64_succ (show c < 9223372036854775807 by omega)]
      exact hm
def FMc (P L w x : Nat) : Int := sumTo (hit (pows P L 1) w 0) x
theorem FMc_bound (P L w : Nat) : ∀ x : Nat, 0 ≤ FMc P L w x ∧ FMc P L w x ≤ x := by
  intro x
  induction x with
  | zero => exact ⟨Int.le_refl _, Int.le_refl _⟩
  | succ x ih =>
    unfold FMc at ih ⊢
    simp only [sumTo]
    have : 0 ≤ hit (pows P L 1) w 0 x ∧ hit (pows P L 1) w 0 x ≤ 1 := by unfold hit; split <;> omega
    omega
theorem FMc_all (P L w : Nat) : FMc P L w (2 ^ L) = cntN P L w := by
  unfold FMc cntN
  rw [nways_sum, pows_length]
theorem FMc_one (P L w : Nat) (hw : 1 ≤ w) : FMc P L w 1 = 0 := by
  have z : ∀ n, wtX n 0 = 0 := by
    intro n
    induction n with
    | zero => rfl
    | succ n ih => simp [wtX, ih]
  unfold FMc
  simp only [sumTo, hit, z]
  rw [if_neg (fun e => by omega)]; rfl
def FMinv (P L : Nat) (cs : List Int) (x : Nat) : Prop := (cs.length : Int) = 4 ∧ ∀ w : Nat, 1 ≤ w → w ≤ 3 → rd cs (w : Int) = FMc P L w x
theorem FMc_succ (P L w x : Nat) : FMc P L w (x + 1) = FMc P L w x + hit (pows P L 1) w 0 x := rfl
theorem FM_l2 (P L : Nat) (h1 : 2 ≤ P) (h2 : P ≤ 127) (h3 : 1 ≤ L) (h4 : L ≤ 9) (cs : List Int) (hcs : FMinv P L cs (2 ^ L)) (m : Nat) (one : Bool)
    (hor : (one = false ∧ ∀ c', 1 ≤ c' → c' ≤ 4 → ¬ cntN P L c' > 0) ∨ (one = true ∧ 1 ≤ m ∧ m ≤ 4 ∧ cntN P L m > 0 ∧ ∀ c', 1 ≤ c' → c' < m → ¬ cntN P L c' > 0)) :
    ∀ (d w f : Nat), 1 ≤ w → w + d = 4 → ((f = 0 ∧ ∀ c', 1 ≤ c' → c' < w → ¬ cntN P L c' > 0) ∨ (1 ≤ f ∧ f < w ∧ cntN P L f > 0 ∧ ∀ c', 1 ≤ c' → c' < f → ¬ cntN P L c' > 0)) →
    Ev (fun k => laws_FnMissed.l2 k (P : Int) (L : Int) cs (m : Int) one (f : Int) (w : Int)) true := by
  intro d
  induction d with
  | zero =>
    intro w f hw h hf
    obtain rfl : w = 4 := by omega
    have c1 : ¬ ((4 : Nat) : Int) ≤ 3 := by omega
    have hcm := CMi P L 4 h1 h2 h3 h4 (by omega) (by omega)
    apply Ev.succ
    simp only [laws_FnMissed.l2]
    refine Ev.cond (fun h' => absurd h' c1) (fun _ => ?_)
    refine Ev.bind hcm ?_
    refine Ev.cond (fun _ => ?_) (fun h' => absurd rfl h')
    rcases hf with ⟨rfl, hn⟩ | ⟨g1, g2, g3, g4⟩
    · have c2 : ¬ ((0 : Nat) : Int) > 0 := by omega
      refine Ev.cond (fun h' => absurd h' c2) (fun _ => ?_)
      rcases hor with ⟨rfl, ha⟩ | ⟨rfl, m1, m2, m3, m4⟩
      · have e : decide (cntN P L 4 > 0) = false := decide_eq_false (ha 4 (by omega) (by omega))
        rw [e]
        refine Ev.cond (fun h' => absurd h' (by decide)) (fun _ => ?_)
        refine Ev.cond (fun h' => absurd h' (by decide)) (fun _ => ?_)
        exact Ev.now _
      · have hm4 : m = 4 := by
          by_cases e : m = 4
          · exact e
          · exact absurd m3 (hn m m1 (by omega))
        subst hm4
        have e : decide (cntN P L 4 > 0) = true := decide_eq_true m3
        rw [e]
        refine Ev.cond (fun h' => absurd h' (by decide)) (fun _ => ?_)
        refine Ev.cond (fun _ => ?_) (fun h' => absurd rfl h')
        refine Ev.cond (fun _ => ?_) (fun h' => absurd rfl h')
        exact Ev.now _
    · have c2 : (f : Int) > 0 := by omega
      refine Ev.cond (fun _ => ?_) (fun h' => absurd c2 h')
      rcases hor with ⟨rfl, ha⟩ | ⟨rfl, m1, m2, m3, m4⟩
      · exact absurd g3 (ha f g1 (by omega))
      · have hmf : m = f := by
          rcases Nat.lt_trichotomy m f with e | e | e
          · exact absurd m3 (g4 m m1 e)
          · exact e
          · exact absurd g3 (m4 f g1 e)
        subst hmf
        refine Ev.cond (fun h' => absurd h' (by decide)) (fun _ => ?_)
        refine Ev.cond (fun _ => ?_) (fun h' => absurd rfl h')
        refine Ev.cond (fun _ => ?_) (fun h' => absurd rfl h')
        exact Ev.now _
  | succ d ih =>
    intro w f hw h hf
    have c1 : (w : Int) ≤ 3 := by omega
    have c2 : (0 : Int) ≤ (w : Int) := by omega
    have c3 : (w : Int) < (cs.length : Int) := by rw [hcs.1]; omega
    have hcm := CMi P L w h1 h2 h3 h4 hw (by omega)
    have e : (cntN P L w != rd cs (w : Int)) = false := by
      rw [hcs.2 w hw (by omega), FMc_all]; exact bne_self_eq_false _
    have hws := w64_succ (show w < 9223372036854775807 by omega)
    apply Ev.succ
    simp only [laws_FnMissed.l2]
    refine Ev.cond (fun _ => ?_) (fun h' => absurd c1 h')
    refine Ev.bind hcm ?_
    refine Ev.cond (fun _ => ?_) (fun h' => absurd rfl h')
    refine Ev.cond (fun _ => ?_) (fun h' => absurd c2 h')
    refine Ev.cond (fun _ => ?_) (fun h' => absurd c3 h')
    rw [e]
    apply Ev.succ
    simp only [laws_FnMissed.j3, hws]
    refine Ev.cond (fun h' => absurd h' (by decide)) (fun _ => ?_)
    by_cases hp : cntN P L w > 0
    · refine Ev.cond (fun _ => ?_) (fun h' => absurd hp h')
      rcases hf with ⟨rfl, hn⟩ | ⟨g1, g2, g3, g4⟩
      · refine Ev.cond (fun _ => ?_) (fun h' => absurd rfl h')
        exact ih (w + 1) w (by omega) (by omega) (.inr ⟨hw, by omega, hp, hn⟩)
      · refine Ev.cond (fun h' => absurd h' (by omega)) (fun _ => ?_)
        exact ih (w + 1) f (by omega) (by omega) (.inr ⟨g1, by omega, g3, g4⟩)
    · refine Ev.cond (fun h' => absurd h' hp) (fun _ => ?_)
      rcases hf with ⟨rfl, hn⟩ | ⟨g1, g2, g3, g4⟩
      · refine ih (w + 1) 0 (by omega) (by omega) (.inl ⟨rfl, ?_⟩)
        intro c' k1 k2
        by_cases e : c' = w
        · rw [e]; exact hp
        · exact hn c' k1 (by omega)
      · exact ih (w + 1) f (by omega) (by omega) (.inr ⟨g1, by omega, g3, g4⟩)
theorem FM_l1 (P L x : Nat) (h1 : 2 ≤ P) (h2 : P ≤ 127) (h4 : L ≤ 9) (hx1 : 1 ≤ x) (hx : x < 2 ^ 62) (cs : List Int) (hcs : FMinv P L cs x)
    (next : ∀ cs', FMinv P L cs' (x + 1) → Ev (fun k => laws_FnMissed.l0 k (P : Int) (L : Int) cs' ((x + 1 : Nat) : Int)) true) :
    ∀ (w : Nat) (s : ByteArray) (g : Nat), w ≤ L → s.data.toList ++ dgB x w = dgB x L → g + wtX w x = wtX L x →
    Ev (fun k => laws_FnMissed.l1 k (P : Int) (L : Int) cs (x : Int) s (g : Int) ((w : Int) - 1)) true := by
  intro w
  induction w with
  | zero =>
    intro s g hw hs hg
    have c1 : ¬ (((0 : Nat) : Int) - 1 ≥ 0) := by omega
    rw [dgB, List.append_nil] at hs
    simp only [wtX, Nat.add_zero] at hg
    have hsz : s.size = L := by rw [← size_data, hs, dgB_length]
    have hb : s.data.toList.all isBitB = true := by rw [hs]; exact dgB_bits x L
    have hxs := w64_succ (show x < 9223372036854775807 by omega)
    have hc := HasCheck_impl (p := P) h1 (by omega) s (by omega) hb
    have hrem : remN P s.data.toList 0 = selX (pows P L 1) x := by
      rw [hs, remN_sel h1 (Nat.lt_of_le_of_lt h2 (by decide)) x L 0 (Nat.two_pow_pos _), iterT_zero, Nat.zero_xor]
    rw [hrem] at hc
    apply Ev.succ
    simp only [laws_FnMissed.l1]
    refine Ev.cond (fun h' => absurd h' c1) (fun _ => ?_)
    by_cases hg3 : g ≤ 3
    · have c2 : (g : Int) ≤ 3 := by omega
      refine Ev.cond (fun _ => ?_) (fun h' => absurd c2 h')
      refine Ev.bind hc ?_
      by_cases hz : selX (pows P L 1) x = 0
      · have c3 : (((selX (pows P L 1) x : Nat) : Int) == 0) = true := by rw [hz]; rfl
        have c4 : (0 : Int) ≤ (g : Int) := by omega
        have c5 : (g : Int) < (cs.length : Int) := by rw [hcs.1]; omega
        refine Ev.cond (fun _ => ?_) (fun h' => absurd c3 h')
        refine Ev.cond (fun _ => ?_) (fun h' => absurd c4 h')
        refine Ev.cond (fun _ => ?_) (fun h' => absurd c5 h')
        rw [hxs]
        refine next _ ⟨by rw [List.length_set]; exact hcs.1, fun v hv1 hv3 => ?_⟩
        rw [FMc_succ]
        by_cases e : v = g
        · subst e
          have hb2 := FMc_bound P L v x
          rw [rd_set_same c4 c5, hcs.2 v hv1 hv3, w64 (by omega) (by omega)]
          unfold hit
          rw [pows_length, if_pos ⟨hg.symm, hz⟩]
        · rw [rd_set_ne c4 (by omega) (by omega), hcs.2 v hv1 hv3]
          unfold hit
          rw [pows_length, if_neg (fun h => e (by omega))]; omega
      · have c3 : ¬ (((selX (pows P L 1) x : Nat) : Int) == 0) = true := by
          rw [beq_iff_eq]; omega
        refine Ev.cond (fun h' => absurd h' c3) (fun _ => ?_)
        rw [hxs]
        refine next _ ⟨hcs.1, fun v hv1 hv3 => ?_⟩
        rw [FMc_succ, hcs.2 v hv1 hv3]
        unfold hit
        rw [if_neg (fun h => hz h.2)]; omega
    · have c2 : ¬ (g : Int) ≤ 3 := by omega
      refine Ev.cond (fun h' => absurd h' c2) (fun _ => ?_)
      rw [hxs]
      refine next _ ⟨hcs.1, fun v hv1 hv3 => ?_⟩
      rw [FMc_succ, hcs.2 v hv1 hv3]
      unfold hit
      rw [pows_length, if_neg (fun h => by omega)]; omega
  | succ w ih =>
    intro s g hw hs hg
    have e0 : (((w + 1 : Nat) : Int) - 1) = (w : Int) := by omega
    have c1 : (w : Int) ≥ 0 := by omega
    have c2 : (0 : Int) ≤ (w : Int) := by omega
    have hu : IntKind.u64.wrap (w : Int) = (w : Int) := u64_nat (by omega)
    have e1 := bit_at x w hx (by omega)
    have e3 : wrap64 ((w : Int) - 1) = (w : Int) - 1 := w64 (by omega) (by omega)
    have hbit : x / 2 ^ w % 2 = 0 ∨ x / 2 ^ w % 2 = 1 := by omega
    have hgl : g ≤ 9 := by have := wtX_le L x; omega
    rw [dgB] at hs
    rw [wtX_snoc] at hg
    rw [e0]
    apply Ev.succ
    simp only [laws_FnMissed.l1, hu, e1, e3]
    refine Ev.cond (fun _ => ?_) (fun h' => absurd c1 h')
    refine Ev.cond (fun _ => ?_) (fun h' => absurd c2 h')
    refine Ev.bind (Ev.const rfl) ?_
    have hsz : s.size ≤ 9 := by
      have := congrArg List.length hs
      rw [List.length_append, size_data, dgB_length, List.length_cons] at this; omega
    have c3 : ∀ v : Int, s.size + (strOfNums ([v] : List Int)).size ≤ 9223372036854775807 := by
      intro v; rw [str_size, List.length_singleton]; omega
    refine Ev.cond (fun _ => ?_) (fun h' => absurd (c3 _) h')
    rcases hbit with hb | hb
    · rw [hb] at hg ⊢
      rw [if_neg (show ¬ x / 2 ^ w % 2 = 1 by omega)] at hs
      have e4 : strOfNums ([wrap64 (48 + ((0 : Nat) : Int)) % 256] : List Int) = (⟨#[48]⟩ : ByteArray) := by decide +kernel
      have e5 : wrap64 ((g : Int) + ((0 : Nat) : Int)) = (g : Int) := by rw [w64 (by omega) (by omega)]; omega
      rw [e4, e5]
      refine ih _ g (by omega) ?_ (by omega)
      rw [ByteArray.data_append, Array.toList_append, List.append_assoc]
      exact hs
    · rw [hb] at hg ⊢
      rw [if_pos hb] at hs
      have e4 : strOfNums ([wrap64 (48 + ((1 : Nat) : Int)) % 256] : List Int) = (⟨#[49]⟩ : ByteArray) := by decide +kernel
      have e5 : wrap64 ((g : Int) + ((1 : Nat) : Int)) = ((g + 1 : Nat) : Int) := by rw [w64 (by omega) (by omega)]; omega
      rw [e4, e5]
      refine ih _ (g + 1) (by omega) ?_ (by omega)
      rw [ByteArray.data_append, Array.toList_append, List.append_assoc]
      exact hs
theorem FM_l0 (P L : Nat) (h1 : 2 ≤ P) (h2 : P ≤ 127) (h3 : 1 ≤ L) (h4 : L ≤ 9) (Q : Nat) (hQ : 2 ^ L = Q) (hQ2 : Q ≤ 512) :
    ∀ (d x : Nat) (cs : List Int), 1 ≤ x → x + d = Q → FMinv P L cs x → Ev (fun k => laws_FnMissed.l0 k (P : Int) (L : Int) cs (x : Int)) true := by
  have hu : IntKind.u64.wrap (L : Int) = (L : Int) := u64_nat (by omega)
  have hs : shl .i64 1 (L : Int) = (Q : Int) := by rw [shl_one (by omega), hQ]
  have c0 : (0 : Int) ≤ (L : Int) := by omega
  intro d
  induction d with
  | zero =>
    intro x cs hx h hcs
    obtain rfl : x = Q := by omega
    have c1 : ¬ (x : Int) < (x : Int) := by omega
    obtain ⟨m, one, hm, hor⟩ := LMi P L h1 h2 h3 h4 4 1 (by omega) (by omega) (by intro c' g1 g2; omega)
    apply Ev.succ
    simp only [laws_FnMissed.l0, hu, hs]
    refine Ev.cond (fun _ => ?_) (fun h' => absurd c0 h')
    refine Ev.cond (fun h' => absurd h' c1) (fun _ => ?_)
    have hlm : Ev (fun k => impl_LeastMissed.f k (P : Int) (L : Int)) ((m : Int), one) := hm
    refine Ev.bind hlm ?_
    rw [← hQ] at hcs
    exact FM_l2 P L h1 h2 h3 h4 cs hcs m one hor 3 1 0 (by omega) (by omega) (.inl ⟨rfl, by intro c' g1 g2; omega⟩)
  | succ d ih =>
    intro x cs hx h hcs
    have c1 : (x : Int) < (Q : Int) := by omega
    have e : wrap64 ((L : Int) - 1) = (L : Int) - 1 := w64 (by omega) (by omega)
    apply Ev.succ
    simp only [laws_FnMissed.l0, hu, hs, e]
    refine Ev.cond (fun _ => ?_) (fun h' => absurd c0 h')
    refine Ev.cond (fun _ => ?_) (fun h' => absurd c1 h')
    exact FM_l1 P L x h1 h2 h4 hx (by omega) cs hcs (fun cs' hcs' => ih (x + 1) cs' (by omega) (by omega) hcs') L ⟨#[]⟩ 0 (Nat.le_refl _) rfl (Nat.zero_add _)
theorem FnMissed : laws_FnMissed.Pure := by
  intro l m hl hl2 hlw hm hm2 hmw
  refine Ev.rounds ?_
  unfold laws_FnMissed.f
  obtain ⟨b, hb, _⟩ := r8Long_eq l m
  refine Ev.bind (Ev.const hb) ?_
  refine Ev.cond (fun _ => Ev.now _) (fun _ => ?_)
  obtain ⟨P, hP, hP1, hP2⟩ := R8Check_eq l hlw
  obtain ⟨t, ht, ht0, ht1⟩ := r8At_eq m hmw 0 9 (by omega) (by omega)
  refine Ev.bind (Ev.const hP) (Ev.bind (Ev.const ht) ?_)
  refine Ev.cond (fun _ => ?_) (fun h' => absurd (by decide) h')
  obtain ⟨t, rfl⟩ := Int.eq_ofNat_of_zero_le ht0
  have w1 : wrap64 (1 + (t : Int)) = ((t + 1 : Nat) : Int) := by rw [w64 (by omega) (by omega)]; omega
  rw [w1]
  have hpow : 2 ^ (t + 1) ≤ 512 := Nat.pow_le_pow_right (show 0 < 2 by decide) (show t + 1 ≤ 9 by omega)
  have hpos := Nat.two_pow_pos (t + 1)
  obtain ⟨Q, hQ⟩ : ∃ Q, 2 ^ (t + 1) = Q := ⟨_, rfl⟩
  rw [hQ] at hpow hpos
  refine FM_l0 P (t + 1) hP1 hP2 (by omega) (by omega) Q hQ hpow (Q - 1) 1 _ (by omega) (by omega) ⟨by decide, fun w g1 g3 => ?_⟩
  rw [FMc_one P (t + 1) w g1]
  have : w = 1 ∨ w = 2 ∨ w = 3 := by omega
  rcases this with rfl | rfl | rfl <;> decide

end Go.Proofs.YtckjcighblnnfaaDoor.Pure
