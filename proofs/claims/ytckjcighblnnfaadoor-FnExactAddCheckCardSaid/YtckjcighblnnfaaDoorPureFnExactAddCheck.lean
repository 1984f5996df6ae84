/- For every number and all bits the program's AddCheck answers what the reference's does. -/
import Derived.Test.YtckjcighblnnfaaDoorQFnExactAddCheckx2
import Derived.Test.YtckjcighblnnfaaDoorBase
import Derived.Test.YtckjcighblnnfaaDoorPoly
namespace Go.Proofs.YtckjcighblnnfaaDoor.Pure
open Go.RowKit Go.Proofs.YtckjcighblnnfaaDoor.QFnExactAddCheck Go.Proofs.YtckjcighblnnfaaDoor.Base Go.Proofs.YtckjcighblnnfaaDoorW.PrintWords Go.Proofs.YtckjcighblnnfaaDoorW.PrintLast Go.Proofs.YtckjcighblnnfaaDoorW.PrintMore
open Go.Proofs.YtckjcighblnnfaaDoor.Poly
set_option linter.unusedVariables false
set_option linter.unusedSimpArgs false

/-! within -/
theorem within_eq (a b c : Int) : impl_within.f a b c = some (decide (b ≤ a ∧ a ≤ c)) := by
  unfold impl_within.f
  by_cases h : b ≤ a
  · simp [h, ge_iff_le]
  · simp [h, ge_iff_le]

/-! l00In -/
theorem l00In_eq (a b c : Int) : spec_l00In.f a b c = some (decide (b ≤ a ∧ a ≤ c)) := by
  unfold spec_l00In.f
  by_cases h : b ≤ a
  · simp [h, ge_iff_le]
  · simp [h, ge_iff_le]

/-! degree -/
theorem IsCheck_eq (p : Int) : impl_IsCheck.f p = some (decide (2 ≤ p ∧ p ≤ 131071)) := by
  unfold impl_IsCheck.f
  rw [within_eq]; rfl
theorem l08Check_eq (p : Int) : spec_l08Check.f p = some (decide (2 ≤ p ∧ p ≤ 131071)) := by
  unfold spec_l08Check.f
  rw [l00In_eq]; rfl
theorem p_lt64 {p : Nat} (h : p ≤ 131071) : p < 2 ^ 64 := Nat.lt_of_le_of_lt h (by decide)
theorem deg16 {p : Nat} (h1 : 2 ≤ p) (h2 : p ≤ 131071) : deg p ≤ 16 := deg_le (by omega) (p_lt64 h2) (Nat.lt_of_le_of_lt h2 (by decide))
theorem pow16 {p : Nat} (h1 : 2 ≤ p) (h2 : p ≤ 131071) : 2 ^ deg p ≤ 65536 := by
  have := Nat.pow_le_pow_right (show 0 < 2 by decide) (deg16 h1 h2)
  simpa using this
theorem degree_eq {p : Nat} (h1 : 2 ≤ p) (h2 : p ≤ 131071) : impl_degree.f (p : Int) = some (deg p : Int) := by
  unfold impl_degree.f bits_Len64.f
  rw [u64_nat (show p < 2 ^ 63 by exact Nat.lt_of_le_of_lt h2 (by decide)), if_pos ⟨by omega, by omega⟩, Option.bind_some, Int.toNat_natCast, bitLen_deg (by omega) (p_lt64 h2)]
  have := deg16 h1 h2
  rw [w64 (by omega) (by omega)]
  congr 1; omega
theorem times_eq {p r : Nat} (h1 : 2 ≤ p) (h2 : p ≤ 131071) (hr : r < 2 ^ deg p) : impl_times.f (p : Int) (r : Int) = some (T p r : Int) := by
  unfold impl_times.f
  have h16 := deg16 h1 h2
  have hp := pow16 h1 h2
  rw [degree_eq h1 h2, Option.bind_some, if_pos (by omega)]
  have e1 : wrap64 ((r : Int) * 2) = ((2 * r : Nat) : Int) := by rw [w64 (by omega) (by omega)]; omega
  rw [e1, shr_nat _ _ (by omega), bits_xor (by omega) (by omega)]
  unfold T
  by_cases h : 2 * r / 2 ^ deg p = 1
  · have h' : ((2 * r / 2 ^ deg p : Nat) : Int) = 1 := by rw [h]; rfl
    rw [if_pos h', if_pos h]
  · have h' : ¬ ((2 * r / 2 ^ deg p : Nat) : Int) = 1 := by omega
    rw [if_neg h', if_neg h]
theorem l08Degree_l0 : ∀ (f X n : Nat), 1 ≤ X → X < 2 ^ f → n + f ≤ 1000 → Ev (fun k => spec_l08Degree.l0 k (X : Int) (n : Int)) ((n + dg f X : Nat) : Int) := by
  intro f
  induction f with
  | zero => intro X n h1 h2; simp at h2; omega
  | succ f ih =>
    intro X n h1 h2 h3
    apply Ev.succ
    unfold dg
    by_cases h : X ≤ 1
    · have h' : ¬ (X : Int) > 1 := by omega
      simp only [spec_l08Degree.l0, h', if_false, h, if_true, Nat.add_zero]; exact Ev.now _
    · have h' : (X : Int) > 1 := by omega
      have hp : 2 ^ (f + 1) = 2 * 2 ^ f := by rw [Nat.pow_succ, Nat.mul_comm]
      have e : (X : Int) / 2 = ((X / 2 : Nat) : Int) := by omega
      have h4 := ih (X / 2) (n + 1) (by omega) (by omega) (by omega)
      have e2 : n + 1 + dg f (X / 2) = n + (dg f (X / 2) + 1) := by omega
      rw [e2] at h4
      simp only [spec_l08Degree.l0, h', if_true, h, if_false, e, w64_succ (show n < 9223372036854775807 by omega)]; exact h4
theorem l08Degree_ev {p : Nat} (h1 : 2 ≤ p) (h2 : p ≤ 131071) : Ev (fun k => spec_l08Degree.f k (p : Int)) (deg p : Int) := by
  have h := l08Degree_l0 64 p 0 (by omega) (p_lt64 h2) (by omega)
  rw [Nat.zero_add] at h
  exact h
theorem l08Next_ev {p r b : Nat} (h1 : 2 ≤ p) (h2 : p ≤ 131071) (hr : r < 2 ^ deg p) (hb : b < 2) : Ev (fun k => spec_l08Next.f k (p : Int) (r : Int) (b : Int)) ((T p r ^^^ b : Nat) : Int) := by
  unfold spec_l08Next.f
  refine Ev.bind (l08Degree_ev h1 h2) ?_
  have h16 := deg16 h1 h2
  have hp := pow16 h1 h2
  have e1 : wrap64 ((r : Int) * 2) = ((2 * r : Nat) : Int) := by rw [w64 (by omega) (by omega)]; omega
  have e2 : IntKind.u64.wrap (deg p : Int) = (deg p : Int) := u64_nat (by omega)
  have e3 : (0 : Int) ≤ (deg p : Int) := by omega
  have hor : 2 * r ||| b < 2 ^ 62 := by rw [dbl_or hb]; omega
  have e4 : Go.bits .or .i64 ((2 * r : Nat) : Int) (b : Int) = ((2 * r ||| b : Nat) : Int) := bits_or (by omega) (by omega)
  have e5 := shr_nat (2 * r ||| b) (deg p) (by omega)
  have e6 : Go.bits .xor .i64 ((2 * r ||| b : Nat) : Int) (p : Int) = (((2 * r ||| b) ^^^ p : Nat) : Int) := bits_xor hor (by omega)
  simp only [e1, e2, e3, if_true, e4, e5, e6]
  have hn := next_T h1 (p_lt64 h2) hr hb
  rw [← hn]
  by_cases h : (2 * r ||| b) / 2 ^ deg p > 0
  · have h' : ((((2 * r ||| b) / 2 ^ deg p : Nat)) : Int) > 0 := by omega
    simp only [h, h', if_true]; exact Ev.now _
  · have h' : ¬ ((((2 * r ||| b) / 2 ^ deg p : Nat)) : Int) > 0 := by omega
    simp only [h, h', if_false]; exact Ev.now _

/-! remainder -/
theorem remainder_l0 {p : Nat} (h1 : 2 ≤ p) (h2 : p ≤ 131071) (s : ByteArray) (hn : s.size ≤ 1099511627776) (hb : s.data.toList.all isBitB = true) : ∀ (d n r : Nat), n + d = s.size → r < 2 ^ deg p →
    Ev (fun k => impl_remainder.l0 k (p : Int) s (r : Int) (s.size : Int) (n : Int)) ((remN p (s.data.toList.drop n) r : Nat) : Int) ∧ Ev (fun k => spec_l08Rest.l0 k (p : Int) s (r : Int) (n : Int)) ((remN p (s.data.toList.drop n) r : Nat) : Int) := by
  intro d
  induction d with
  | zero =>
    intro n r h hr
    have c1 : ¬ ((n : Int) < (s.size : Int)) := by omega
    have c2 : s.data.toList.drop n = [] := List.drop_eq_nil_of_le (by rw [size_data]; omega)
    rw [c2]
    refine ⟨Ev.succ ?_, Ev.succ ?_⟩
    · simp only [impl_remainder.l0, c1, if_false, remN]; exact Ev.now _
    · simp only [spec_l08Rest.l0, c1, if_false, remN]; exact Ev.now _
  | succ d ih =>
    intro n r h hr
    have hl : n < s.size := by omega
    have c1 : (n : Int) < (s.size : Int) := by omega
    have c2 : (0 : Int) ≤ (n : Int) := by omega
    have hT := T_lt h1 (p_lt64 h2) hr
    have hp := pow16 h1 h2
    have hd := deg_pos h1 (p_lt64 h2)
    have hp2 : 2 ≤ 2 ^ deg p := by
      have := Nat.pow_le_pow_right (show 0 < 2 by decide) hd
      simpa using this
    have hw := w64_succ (show n < 9223372036854775807 by omega)
    have hbt := bt_nat s n hl
    have hbit : isBitB (s[n]) = true := by
      rw [List.all_eq_true] at hb
      exact hb _ (by rw [← data_get hl]; exact List.getElem_mem _)
    rw [drop_data hl, remN]
    by_cases c : s[n] = 49
    · have c3 : bt s (n : Int) = 49 := by rw [hbt, c]; rfl
      have hx : T p r ^^^ 1 < 2 ^ deg p := Nat.xor_lt_two_pow hT (by omega)
      have h3 := ih (n + 1) (T p r ^^^ 1) (by omega) hx
      rw [if_pos c]
      refine ⟨Ev.succ ?_, Ev.succ ?_⟩
      · have e : Go.bits .xor .i64 (T p r : Int) 1 = ((T p r ^^^ 1 : Nat) : Int) := bits_xor (b := 1) (by omega) (by omega)
        simp only [impl_remainder.l0, c1, c2, if_true, times_eq h1 h2 hr, Option.bind_some, c3, e, hw]; exact h3.1
      · have e : (49 - 48 : Int) % 256 = ((1 : Nat) : Int) := by decide
        simp only [spec_l08Rest.l0, c1, c2, if_true, c3, e, hw]
        exact Ev.bind (l08Next_ev h1 h2 hr (by omega)) h3.2
    · have c48 : bt s (n : Int) = 48 := by
        rcases (isBit_iff _).1 hbit with h | h
        · rw [hbt]; exact h
        · exact absurd (UInt8.toNat_inj.1 (by show (s[n]).toNat = 49; omega)) c
      have h3 := ih (n + 1) (T p r ^^^ 0) (by omega) (by rw [Nat.xor_zero]; exact hT)
      rw [if_neg c]
      refine ⟨Ev.succ ?_, Ev.succ ?_⟩
      · rw [Nat.xor_zero] at h3 ⊢
        simp only [impl_remainder.l0, c1, c2, if_true, times_eq h1 h2 hr, Option.bind_some, c48, Int.reduceEq, if_false, hw]; exact h3.1
      · have e : (48 - 48 : Int) % 256 = ((0 : Nat) : Int) := by decide
        simp only [spec_l08Rest.l0, c1, c2, if_true, c48, e, hw]
        exact Ev.bind (l08Next_ev h1 h2 hr (by omega)) h3.2
theorem remainder_ev {p : Nat} (h1 : 2 ≤ p) (h2 : p ≤ 131071) (s : ByteArray) (hn : s.size ≤ 1099511627776) (hb : s.data.toList.all isBitB = true) :
    Ev (fun k => impl_remainder.f k (p : Int) s) ((remN p s.data.toList 0 : Nat) : Int) ∧ Ev (fun k => spec_l08Rest.f k (p : Int) s) ((remN p s.data.toList 0 : Nat) : Int) :=
  remainder_l0 h1 h2 s hn hb s.size 0 0 (by omega) (Nat.two_pow_pos _)

/-! checkBits -/
theorem bit_at (x i : Nat) (hx : x < 2 ^ 62) (hi : i ≤ 63) : Go.bits .and .i64 (shr .i64 (x : Int) (i : Int)) 1 = ((x / 2 ^ i % 2 : Nat) : Int) := by
  rw [shr_nat _ _ hi]
  have e := bits_and (a := x / 2 ^ i) (b := 1) (Nat.lt_of_le_of_lt (Nat.div_le_self _ _) hx) (by decide)
  rw [Nat.and_one_is_mod] at e
  exact e
theorem digits_l0 (x : Nat) (hx : x < 2 ^ 62) : ∀ (w : Nat) (c : List Int), w ≤ 62 → c.length + w ≤ 1000 →
    Ev (fun k => impl_digits.l0 k (x : Int) c ((w : Int) - 1)) (strOfNums (c ++ dgts x w)) := by
  intro w
  induction w with
  | zero =>
    intro c hw hc
    have h1 : ¬ (((0 : Nat) : Int) - 1 ≥ 0) := by omega
    apply Ev.succ
    simp only [impl_digits.l0, h1, if_false, dgts, List.append_nil]; exact Ev.now _
  | succ w ih =>
    intro c hw hc
    have h1 : (((w + 1 : Nat) : Int) - 1) = (w : Int) := by omega
    have h2 : (w : Int) ≥ 0 := by omega
    have h2' : 0 ≤ (w : Int) := by omega
    have h3 : c.length < 140737488355328 := by omega
    have h4 := ih (c ++ [((48 + x / 2 ^ w % 2 : Nat) : Int)]) (by omega) (by simp; omega)
    have e1 := bit_at x w hx (by omega)
    have e2 : (48 + ((x / 2 ^ w % 2 : Nat) : Int)) % 256 = ((48 + x / 2 ^ w % 2 : Nat) : Int) := by omega
    have e3 : wrap64 ((w : Int) - 1) = (w : Int) - 1 := w64 (by omega) (by omega)
    apply Ev.succ
    rw [List.append_assoc] at h4
    simp only [impl_digits.l0, h1, h2, h2', h3, if_true, e1, e2, e3, dgts]
    exact h4
theorem digits_ev (x w : Nat) (hx : x < 2 ^ 62) (hw : w ≤ 62) : Ev (fun k => impl_digits.f k (x : Int) (w : Int)) (strOfNums (dgts x w)) := by
  unfold impl_digits.f
  have e : wrap64 ((w : Int) - 1) = (w : Int) - 1 := w64 (by omega) (by omega)
  rw [e]
  exact digits_l0 x hx w [] hw (by simp; omega)
theorem l08Sum_l1 (x : Nat) (hx : x < 2 ^ 62) : ∀ (w : Nat) (c : List Int), w ≤ 62 → c.length + w ≤ 1000 →
    Ev (fun k => spec_l08Sum.l1 k (x : Int) c ((w : Int) - 1)) (strOfNums (c ++ dgts x w)) := by
  intro w
  induction w with
  | zero =>
    intro c hw hc
    have h1 : ¬ (((0 : Nat) : Int) - 1 ≥ 0) := by omega
    apply Ev.succ
    simp only [spec_l08Sum.l1, h1, if_false, dgts, List.append_nil]; exact Ev.now _
  | succ w ih =>
    intro c hw hc
    have h1 : (((w + 1 : Nat) : Int) - 1) = (w : Int) := by omega
    have h2 : (w : Int) ≥ 0 := by omega
    have h2' : 0 ≤ (w : Int) := by omega
    have h3 : c.length < 140737488355328 := by omega
    have h4 := ih (c ++ [((48 + x / 2 ^ w % 2 : Nat) : Int)]) (by omega) (by simp; omega)
    have e0 : IntKind.u64.wrap (w : Int) = (w : Int) := u64_nat (by omega)
    have e1 := bit_at x w hx (by omega)
    have e2 : wrap64 (48 + ((x / 2 ^ w % 2 : Nat) : Int)) % 256 = ((48 + x / 2 ^ w % 2 : Nat) : Int) := by rw [w64 (by omega) (by omega)]; omega
    have e3 : wrap64 ((w : Int) - 1) = (w : Int) - 1 := w64 (by omega) (by omega)
    apply Ev.succ
    rw [List.append_assoc] at h4
    simp only [spec_l08Sum.l1, h1, h2, h2', h3, if_true, e0, e1, e2, e3, dgts]
    exact h4
theorem checkBits_l0 {p : Nat} (h1 : 2 ≤ p) (h2 : p ≤ 131071) : ∀ (d n r : Nat), n + d = deg p → r < 2 ^ deg p →
    Ev (fun k => impl_checkBits.l0 k (p : Int) (r : Int) (deg p : Int) (n : Int)) (strOfNums (dgts (iterT p d r) (deg p))) ∧
    Ev (fun k => spec_l08Sum.l0 k (p : Int) (deg p : Int) (r : Int) (n : Int)) (strOfNums (dgts (iterT p d r) (deg p))) := by
  have h16 := deg16 h1 h2
  have hp := pow16 h1 h2
  intro d
  induction d with
  | zero =>
    intro n r h hr
    have c1 : ¬ ((n : Int) < (deg p : Int)) := by omega
    have e : wrap64 ((deg p : Int) - 1) = (deg p : Int) - 1 := w64 (by omega) (by omega)
    refine ⟨Ev.succ ?_, Ev.succ ?_⟩
    · simp only [impl_checkBits.l0, c1, if_false, degree_eq h1 h2, Option.bind_some, iterT]
      exact Ev.bind (digits_ev r (deg p) (by omega) (by omega)) (Ev.now _)
    · simp only [spec_l08Sum.l0, c1, if_false, e, iterT]
      exact l08Sum_l1 r (by omega) (deg p) [] (by omega) (by simp; omega)
  | succ d ih =>
    intro n r h hr
    have c1 : (n : Int) < (deg p : Int) := by omega
    have hT := T_lt h1 (p_lt64 h2) hr
    have h3 := ih (n + 1) (T p r) (by omega) hT
    have hw := w64_succ (show n < 9223372036854775807 by omega)
    refine ⟨Ev.succ ?_, Ev.succ ?_⟩
    · simp only [impl_checkBits.l0, c1, if_true, times_eq h1 h2 hr, Option.bind_some, hw, iterT]; exact h3.1
    · simp only [spec_l08Sum.l0, c1, if_true, hw, iterT]
      have hx := l08Next_ev (b := 0) h1 h2 hr (by omega)
      rw [Nat.xor_zero] at hx
      exact Ev.bind hx h3.2
theorem checkBits_ev {p : Nat} (h1 : 2 ≤ p) (h2 : p ≤ 131071) (s : ByteArray) (hn : s.size ≤ 1099511627776) (hb : s.data.toList.all isBitB = true) :
    Ev (fun k => impl_checkBits.f k (p : Int) s) (strOfNums (checkN p s.data.toList)) ∧ Ev (fun k => spec_l08Sum.f k (p : Int) s) (strOfNums (checkN p s.data.toList)) := by
  obtain ⟨r1, r2⟩ := remainder_ev h1 h2 s hn hb
  have hr := remN_lt h1 (p_lt64 h2) s.data.toList 0 (Nat.two_pow_pos _)
  obtain ⟨c1, c2⟩ := checkBits_l0 h1 h2 (deg p) 0 _ (by omega) hr
  unfold impl_checkBits.f spec_l08Sum.f
  refine ⟨Ev.bind r1 ?_, ?_⟩
  · simp only [degree_eq h1 h2, Option.bind_some]; exact c1
  · exact Ev.bind (l08Degree_ev h1 h2) (Ev.bind r2 c2)

/-! IsBits -/
theorem trim_bits (s : ByteArray) (h : s.size ≤ 9223372036854775807) : strings_Trim.f s (⟨#[48, 49]⟩ : ByteArray) = some ⟨(Lib.trimS s.data.toList [48, 49]).toArray⟩ := by
  unfold strings_Trim.f
  rw [if_pos ⟨h, by decide, by decide⟩]
theorem areBits_eq (s : ByteArray) (h : s.size ≤ 9223372036854775807) : impl_areBits.f s = some (s.data.toList.all isBitB) := by
  unfold impl_areBits.f
  rw [trim_bits s h, Option.bind_some]
  congr 1
  have e1 : (⟨(Lib.trimS s.data.toList [48, 49]).toArray⟩ : ByteArray).toList = Lib.trimS s.data.toList [48, 49] := by rw [Lib.toList_data]
  rw [e1, Bool.eq_iff_iff, beq_iff_eq, trimS_nil]
  have e2 : (fun b => ([48, 49] : List UInt8).contains b) = isBitB := funext contains_bits
  rw [e2]
theorem IsBits_eq (s : ByteArray) (h : s.size ≤ 9223372036854775807) : impl_IsBits.f s = some (bitsB s) := by
  unfold impl_IsBits.f bitsB
  by_cases h4 : s.size ≤ 400
  · have h4' : (s.size : Int) ≤ 400 := by omega
    simp only [h4', if_true, areBits_eq s h, Option.bind_some, h4, decide_true, Bool.and_true]
  · have h4' : ¬ (s.size : Int) ≤ 400 := by omega
    simp only [h4', if_false, h4, decide_false, Bool.and_false]

/-! l01Bits -/
theorem l01Bits_l0 (s : ByteArray) (hn : s.size ≤ 1099511627776) : ∀ d n, n + d = s.size → Ev (fun k => spec_l01Bits.l0 k s (n : Int)) ((s.data.toList.drop n).all isBitB && decide (s.size ≤ 400)) := by
  intro d
  induction d with
  | zero =>
    intro n h
    apply Ev.succ
    have h1 : ¬ ((n : Int) < (s.size : Int)) := by omega
    have h2 : s.data.toList.drop n = [] := List.drop_eq_nil_of_le (by rw [size_data]; omega)
    have h3 : ((s.size : Int) ≤ 400) = (s.size ≤ 400) := propext ⟨fun h => by omega, fun h => by omega⟩
    simp only [spec_l01Bits.l0, h1, if_false, h2, h3]
    exact Ev.now _
  | succ d ih =>
    intro n h
    apply Ev.succ
    have hl : n < s.size := by omega
    have h1 : (n : Int) < (s.size : Int) := by omega
    have h2 : (0 : Int) ≤ (n : Int) := by omega
    have h3 := ih (n + 1) (by omega)
    rw [drop_data hl, List.all_cons]
    have hb := bt_nat s n hl
    have hi := isBit_iff (s[n])
    rw [← hb] at hi
    simp only [spec_l01Bits.l0, h1, h2, if_true, w64_succ (show n < 9223372036854775807 by omega)]
    by_cases c1 : bt s (n : Int) = 48
    · rw [hi.2 (.inl c1), Bool.true_and]
      simp only [c1, if_true]; exact h3
    · by_cases c2 : bt s (n : Int) = 49
      · rw [hi.2 (.inr c2), Bool.true_and]
        simp only [c2, if_true, Int.reduceEq, if_false]; exact h3
      · have hf : isBitB (s[n]) = false := by
          rw [Bool.eq_false_iff]; intro hc
          rcases hi.1 hc with hc | hc
          · exact c1 hc
          · exact c2 hc
        simp only [hf, Bool.false_and, c1, c2, if_false]
        exact Ev.now _
theorem l01Bits_ev (s : ByteArray) (hn : s.size ≤ 1099511627776) : Ev (fun k => spec_l01Bits.f k s) (bitsB s) := by
  have h := l01Bits_l0 s hn s.size 0 (by omega)
  exact h

theorem strOfNums_size (l : List Int) : (strOfNums l).size = l.length := by
  show (strOfNums l).data.size = _
  simp [strOfNums]
theorem AC_ev (p : Int) (s : ByteArray) (hn : s.size ≤ 1048576) : ∃ r, Ev (fun k => spec_AddCheck.f k p s) r ∧ Ev (fun k => impl_AddCheck.f k p s) r := by
  unfold spec_AddCheck.f impl_AddCheck.f
  simp only [l08Check_eq, IsCheck_eq, Option.bind_some, IsBits_eq s (by omega)]
  by_cases h1 : 2 ≤ p ∧ p ≤ 131071
  · simp only [h1, and_self, decide_true, if_true]
    by_cases h2 : bitsB s = true
    · obtain ⟨P, rfl⟩ := Int.eq_ofNat_of_zero_le (show 0 ≤ p by omega)
      have hb : s.data.toList.all isBitB = true := by unfold bitsB at h2; rw [Bool.and_eq_true] at h2; exact h2.1
      obtain ⟨c1, c2⟩ := checkBits_ev (p := P) (by omega) (by omega) s (by omega) hb
      have hd := deg16 (p := P) (by omega) (by omega)
      have hw : wrap64 ((s.size : Int) + (deg P : Int)) = (s.size : Int) + (deg P : Int) := w64 (by omega) (by omega)
      have hsz : s.size + (strOfNums (checkN P s.data.toList)).size ≤ 9223372036854775807 := by
        rw [strOfNums_size]; unfold checkN; rw [dgts_length]; omega
      have hdg := degree_eq (p := P) (by omega) (by omega)
      have hdv := l08Degree_ev (p := P) (by omega) (by omega)
      generalize deg P = D at hdg hdv hd hw
      by_cases h3 : (s.size : Int) + (D : Int) > 400
      · refine ⟨(⟨#[]⟩, false), Ev.bind (l01Bits_ev s (by omega)) ?_, ?_⟩
        · simp only [h2, if_true]
          refine Ev.bind hdv ?_
          simp only [hw, h3, if_true]; exact Ev.now _
        · simp only [h2, if_true]
          refine Ev.bind (Ev.const hdg) ?_
          simp only [hw, h3, if_true]; exact Ev.now _
      · refine ⟨(s ++ strOfNums (checkN P s.data.toList), true), Ev.bind (l01Bits_ev s (by omega)) ?_, ?_⟩
        · simp only [h2, if_true]
          refine Ev.bind hdv ?_
          simp only [hw, h3, if_false]
          exact Ev.bind c2 (Ev.cond (fun _ => Ev.now _) (fun h => absurd hsz h))
        · simp only [h2, if_true]
          refine Ev.bind (Ev.const hdg) ?_
          simp only [hw, h3, if_false]
          exact Ev.bind c1 (Ev.cond (fun _ => Ev.now _) (fun h => absurd hsz h))
    · refine ⟨(⟨#[]⟩, false), Ev.bind (l01Bits_ev s (by omega)) ?_, ?_⟩
      · simp only [h2, if_false]; exact Ev.now _
      · simp only [h2, if_false]; exact Ev.now _
  · simp only [h1, decide_false, Bool.false_eq_true, if_false]
    exact ⟨(⟨#[]⟩, false), Ev.now _, Ev.now _⟩
theorem FnExactAddCheck : laws_FnExactAddCheck.Pure := by
  intro p s h0 hs
  refine Ev.rounds ?_
  unfold laws_FnExactAddCheck.f
  by_cases hl : (s.size : Int) > 1048576
  · simp only [hl, if_true]; exact Ev.now _
  obtain ⟨r, h1, h2⟩ := AC_ev p s (by omega)
  simp only [hl, if_false]
  refine Ev.bind h1 (Ev.bind h2 ?_)
  simp only [if_true, bne_self_eq_false, Bool.false_eq_true, if_false]
  exact Ev.now _

end Go.Proofs.YtckjcighblnnfaaDoor.Pure
