/- For all bytes bits with their check are a multiple, the check of combined bits is that of both, and a changed bit is missed only if one changed bit can be. -/
import Derived.Test.YthaafdeicgbajaaDoorQFnChecksx4
import Derived.Test.YthaafdeicgbajaaDoorBase
import Derived.Test.YthaafdeicgbajaaDoorPoly
import Derived.Test.YthaafdeicgbajaaDoorLin
namespace Go.Proofs.YthaafdeicgbajaaDoor.Pure
open Go.RowKit Go.Proofs.YthaafdeicgbajaaDoor.QFnChecks Go.Proofs.YthaafdeicgbajaaDoor.Base Go.Proofs.YthaafdeicgbajaaDoorW.PrintWords Go.Proofs.YthaafdeicgbajaaDoorW.PrintLast Go.Proofs.YthaafdeicgbajaaDoorW.PrintMore
open Go.Proofs.YthaafdeicgbajaaDoor.Poly
open Go.Proofs.YthaafdeicgbajaaDoor.Lin
set_option linter.unusedVariables false
set_option linter.unusedSimpArgs false

/-! linMsg -/
def bitU (c : UInt8) : Prop := c = 48 ∨ c = 49
def bv (c : UInt8) : Nat := if c = 49 then 1 else 0
def xorB : List UInt8 → List UInt8 → List UInt8
  | x :: a, y :: b => (if x = y then 48 else 49) :: xorB a b
  | _, _ => []
theorem xorB_len : ∀ (a b : List UInt8), a.length = b.length → (xorB a b).length = a.length := by
  intro a
  induction a with
  | nil => intro b _; rfl
  | cons x a ih =>
    intro b h
    cases b with
    | nil => exact absurd h (by simp)
    | cons y b => simp only [xorB, List.length_cons]; rw [ih b (by simpa using h)]
theorem bv_xor {x y : UInt8} (hx : bitU x) (hy : bitU y) : bv (if x = y then 48 else 49) = bv x ^^^ bv y := by
  rcases hx with rfl | rfl <;> rcases hy with rfl | rfl <;> decide
theorem remN_cons (p : Nat) (c : UInt8) (l : List UInt8) (r : Nat) : remN p (c :: l) r = remN p l (T p r ^^^ bv c) := rfl
theorem bv_lt {p : Nat} (h1 : 2 ≤ p) (h2 : p < 2 ^ 64) (c : UInt8) : bv c < 2 ^ deg p := by
  have hd := deg_pos h1 h2
  have hp2 : 2 ≤ 2 ^ deg p := by
    have := Nat.pow_le_pow_right (show 0 < 2 by decide) hd
    simpa using this
  unfold bv; split <;> omega
theorem remN_xor {p : Nat} (h1 : 2 ≤ p) (h2 : p < 2 ^ 64) : ∀ (a b : List UInt8), a.length = b.length → (∀ c ∈ a, bitU c) → (∀ c ∈ b, bitU c) → ∀ r s : Nat, r < 2 ^ deg p → s < 2 ^ deg p →
    remN p (xorB a b) (r ^^^ s) = remN p a r ^^^ remN p b s := by
  intro a
  induction a with
  | nil =>
    intro b h _ _ r s _ _
    obtain rfl : b = [] := List.eq_nil_of_length_eq_zero h.symm
    rfl
  | cons x a ih =>
    intro b h ha hb r s hr hs
    cases b with
    | nil => exact absurd h (by simp)
    | cons y b =>
      have e := bv_xor (ha x List.mem_cons_self) (hb y List.mem_cons_self)
      simp only [xorB]
      rw [remN_cons, remN_cons, remN_cons, e, T_xor hr hs, show T p r ^^^ T p s ^^^ (bv x ^^^ bv y) = (T p r ^^^ bv x) ^^^ (T p s ^^^ bv y) by ac_rfl]
      exact ih b (by simpa using h) (fun c hc => ha c (List.mem_cons_of_mem _ hc)) (fun c hc => hb c (List.mem_cons_of_mem _ hc)) _ _ (Nat.xor_lt_two_pow (T_lt h1 h2 hr) (bv_lt h1 h2 x)) (Nat.xor_lt_two_pow (T_lt h1 h2 hs) (bv_lt h1 h2 y))
theorem remN_append (p : Nat) (a b : List UInt8) : ∀ r, remN p (a ++ b) r = remN p b (remN p a r) := by
  induction a with
  | nil => intro r; rfl
  | cons x a ih => intro r; rw [List.cons_append, remN_cons, remN_cons, ih]
theorem remN_zeros (p : Nat) : ∀ (n r : Nat), remN p (List.replicate n 48) r = iterT p n r := by
  intro n
  induction n with
  | zero => intro r; rfl
  | succ n ih => intro r; rw [List.replicate_succ, remN_cons, show bv 48 = 0 by decide, Nat.xor_zero, ih]; rfl
theorem T_small {p r : Nat} (h : 2 * r < 2 ^ deg p) : T p r = 2 * r := by
  unfold T
  rw [Nat.div_eq_of_lt h, if_neg (by decide)]
theorem mod_split (x n : Nat) : x % 2 ^ (n + 1) = x / 2 ^ n % 2 * 2 ^ n + x % 2 ^ n := by
  rw [Nat.pow_succ, Nat.mod_mul, Nat.mul_comm (2 ^ n), Nat.add_comm]
/-- Reading few digits is their number. -/
theorem remN_dg {p : Nat} (x : Nat) : ∀ (n m r : Nat), n + m = deg p → r < 2 ^ m → remN p (dgB x n) r = r * 2 ^ n + x % 2 ^ n := by
  intro n
  induction n with
  | zero => intro m r _ _; simp [dgB, remN, Nat.mod_one]
  | succ n ih =>
    intro m r h hr
    have hp : 2 ^ (m + 1) = 2 * 2 ^ m := by rw [Nat.pow_succ, Nat.mul_comm]
    have h2 : 2 * r < 2 ^ deg p := by
      have : 2 ^ (m + 1) ≤ 2 ^ deg p := Nat.pow_le_pow_right (by decide) (by omega)
      omega
    have eb : bv (if x / 2 ^ n % 2 = 1 then 49 else 48) = x / 2 ^ n % 2 := by
      have : x / 2 ^ n % 2 < 2 := Nat.mod_lt _ (by decide)
      by_cases hc : x / 2 ^ n % 2 = 1
      · rw [if_pos hc, hc]; decide
      · rw [if_neg hc]; rw [show x / 2 ^ n % 2 = 0 by omega]; decide
    have hb : x / 2 ^ n % 2 < 2 := Nat.mod_lt _ (by decide)
    rw [dgB, remN_cons, eb, T_small h2, dbl_xor hb, ih (m + 1) _ (by omega) (by omega), mod_split, Nat.add_mul, Nat.pow_succ, Nat.mul_comm 2 r, Nat.mul_assoc, Nat.mul_comm 2 (2 ^ n)]
    omega
theorem xorB_zeros (a : List UInt8) (h : ∀ c ∈ a, bitU c) : xorB (List.replicate a.length 48) a = a := by
  induction a with
  | nil => rfl
  | cons x a ih =>
    rw [List.length_cons, List.replicate_succ]
    simp only [xorB]
    rw [ih (fun c hc => h c (List.mem_cons_of_mem _ hc))]
    rcases h x List.mem_cons_self with rfl | rfl <;> rfl
theorem dgB_bitU (x n : Nat) : ∀ c ∈ dgB x n, bitU c := by
  induction n with
  | zero => intro c hc; exact absurd hc (by simp [dgB])
  | succ n ih =>
    intro c hc
    rw [dgB] at hc
    rcases List.mem_cons.1 hc with rfl | hc
    · by_cases h : x / 2 ^ n % 2 = 1
      · rw [if_pos h]; exact .inr rfl
      · rw [if_neg h]; exact .inl rfl
    · exact ih c hc
/-- Bits with their check leave nothing. -/
theorem check_zero {p : Nat} (h1 : 2 ≤ p) (h2 : p < 2 ^ 64) (a : List UInt8) : remN p (a ++ dgB (iterT p (deg p) (remN p a 0)) (deg p)) 0 = 0 := by
  have hr := remN_lt h1 h2 a 0 (Nat.two_pow_pos _)
  have hc := iterT_lt' h1 h2 (deg p) _ hr
  rw [remN_append]
  generalize remN p a 0 = r at *
  generalize hC : iterT p (deg p) r = c at *
  have hb := dgB_bitU c (deg p)
  have e := xorB_zeros (dgB c (deg p)) hb
  rw [dgB_length] at e
  have hz : ∀ x ∈ List.replicate (deg p) (48 : UInt8), bitU x := fun x hx => .inl (List.eq_of_mem_replicate hx)
  have h := remN_xor h1 h2 (List.replicate (deg p) 48) (dgB c (deg p)) (by rw [List.length_replicate, dgB_length]) hz hb r 0 hr (Nat.two_pow_pos _)
  rw [e, Nat.xor_zero, remN_zeros, hC, remN_dg c (deg p) 0 0 (by omega) (by simp), Nat.zero_mul, Nat.zero_add, Nat.mod_eq_of_lt hc, Nat.xor_self] at h
  exact h
/-- One bit in front of so many zeros. -/
theorem remN_unit {p : Nat} (n m : Nat) : remN p (List.replicate n 48 ++ 49 :: List.replicate m 48) 0 = iterT p m 1 := by
  rw [remN_append, remN_zeros, iterT_zero, remN_cons, remN_zeros, T_zero]; rfl
/-- The bit of an index turned. -/
def flipB (l : List UInt8) (i : Nat) : List UInt8 := xorB l (List.replicate i 48 ++ 49 :: List.replicate (l.length - 1 - i) 48)
theorem remN_flip {p : Nat} (h1 : 2 ≤ p) (h2 : p < 2 ^ 64) (l : List UInt8) (hl : ∀ c ∈ l, bitU c) (i : Nat) (hi : i < l.length) : remN p (flipB l i) 0 = remN p l 0 ^^^ iterT p (l.length - 1 - i) 1 := by
  have hz : ∀ c ∈ List.replicate i (48 : UInt8) ++ 49 :: List.replicate (l.length - 1 - i) 48, bitU c := by
    intro c hc
    rcases List.mem_append.1 hc with hc | hc
    · exact .inl (List.eq_of_mem_replicate hc)
    · rcases List.mem_cons.1 hc with rfl | hc
      · exact .inr rfl
      · exact .inl (List.eq_of_mem_replicate hc)
  have h := remN_xor h1 h2 l _ (by simp only [List.length_append, List.length_cons, List.length_replicate]; omega) hl hz 0 0 (Nat.two_pow_pos _) (Nat.two_pow_pos _)
  rw [Nat.xor_zero, remN_unit] at h
  exact h
theorem dgB_xor (x y : Nat) : ∀ n, dgB (x ^^^ y) n = xorB (dgB x n) (dgB y n) := by
  intro n
  induction n with
  | zero => rfl
  | succ n ih =>
    simp only [dgB, xorB, ih]
    congr 1
    have e : (x ^^^ y) / 2 ^ n % 2 = (x / 2 ^ n % 2) ^^^ (y / 2 ^ n % 2) := by
      rw [← Nat.shiftRight_eq_div_pow, ← Nat.shiftRight_eq_div_pow, ← Nat.shiftRight_eq_div_pow, Nat.shiftRight_xor_distrib]
      have h := Nat.xor_mod_two_pow (a := x >>> n) (b := y >>> n) (n := 1)
      rw [Nat.pow_one] at h
      exact h
    rw [e]
    have hx : x / 2 ^ n % 2 = 0 ∨ x / 2 ^ n % 2 = 1 := by omega
    have hy : y / 2 ^ n % 2 = 0 ∨ y / 2 ^ n % 2 = 1 := by omega
    rcases hx with hx | hx <;> rcases hy with hy | hy <;> rw [hx, hy] <;> decide
theorem check_xor {p : Nat} (h1 : 2 ≤ p) (h2 : p < 2 ^ 64) (a b : List UInt8) (hl : a.length = b.length) (ha : ∀ c ∈ a, bitU c) (hb : ∀ c ∈ b, bitU c) :
    dgB (iterT p (deg p) (remN p (xorB a b) 0)) (deg p) = xorB (dgB (iterT p (deg p) (remN p a 0)) (deg p)) (dgB (iterT p (deg p) (remN p b 0)) (deg p)) := by
  have h := remN_xor h1 h2 a b hl ha hb 0 0 (Nat.two_pow_pos _) (Nat.two_pow_pos _)
  rw [Nat.xor_zero] at h
  rw [h, iterT_xor h1 h2 _ _ _ (remN_lt h1 h2 _ _ (Nat.two_pow_pos _)) (remN_lt h1 h2 _ _ (Nat.two_pow_pos _)), dgB_xor]
theorem iterT_mem (p : Nat) : ∀ (n k r : Nat), k < n → iterT p k r ∈ pows p n r := by
  intro n
  induction n with
  | zero => intro k r h; exact absurd h (by omega)
  | succ n ih =>
    intro k r h
    cases k with
    | zero => exact List.mem_cons_self
    | succ k => exact List.mem_cons_of_mem _ (ih k (T p r) (by omega))
theorem nways_one {l : List Nat} (h : 0 ∈ l) : 0 < nways l 1 0 := by
  induction l with
  | nil => exact absurd h (by simp)
  | cons x l ih =>
    have e : nways (x :: l) 1 0 = nways l 0 (0 ^^^ x) + nways l 1 0 := rfl
    have b0 := (nways_bound l 0 (0 ^^^ x)).1
    have b1 := (nways_bound l 1 0).1
    rw [e]
    rcases List.mem_cons.1 h with hx | hx
    · rw [← hx, Nat.xor_zero, nways_zero, if_pos rfl]; omega
    · have := ih hx; omega

/-! within -/
theorem within_eq (a b c : Int) : impl_within.f a b c = some (decide (b ≤ a ∧ a ≤ c)) := by
  unfold impl_within.f
  by_cases h : b ≤ a
  · simp [h, ge_iff_le]
  · simp [h, ge_iff_le]

/-! l00In -/

/-! degree -/
theorem IsCheck_eq (p : Int) : impl_IsCheck.f p = some (decide (2 ≤ p ∧ p ≤ 131071)) := by
  unfold impl_IsCheck.f
  rw [within_eq]; rfl
theorem p_lt64 {p : Nat} (h : p ≤ 131071) : p < 2 ^ 64 := Nat.lt_of_le_of_lt h (by decide)
theorem deg16 {p : Nat} (h1 : 2 ≤ p) (h2 : p ≤ 131071) : deg p ≤ 16 := deg_le (by omega) (p_lt64 h2) (Nat.lt_of_le_of_lt h2 (by decide))
theorem pow16 {p : Nat} (h1 : 2 ≤ p) (h2 : p ≤ 131071) : 2 ^ deg p ≤ 65536 := by
  have := Nat.pow_le_pow_right (show 0 < 2 by decide) (deg16 h1 h2)
  simpa using this
theorem degree_eq {p : Nat} (h1 : 2 ≤ p) (h2 : p ≤ 131071) : impl_degree.f (p : Int) = some (deg p : Int) := by
  unfold impl_degree.f bits_Len64.f
  rw [u64_nat (show p < 2 ^ 63 by exact Nat.lt_of_le_of_lt h2 (by decide)), if_pos ⟨by omega, by omega⟩, Option.bind_some, Int.toNat_natCast, bitLen_deg (by omega) (p_lt64 h2)]
  have := deg16 h1 h2
  rw [w64 (by omega) (by omega)]
  congr 1; omega
theorem times_eq {p r : Nat} (h1 : 2 ≤ p) (h2 : p ≤ 131071) (hr : r < 2 ^ deg p) : impl_times.f (p : Int) (r : Int) = some (T p r : Int) := by
  unfold impl_times.f
  have h16 := deg16 h1 h2
  have hp := pow16 h1 h2
  rw [degree_eq h1 h2, Option.bind_some, if_pos (by omega)]
  have e1 : wrap64 ((r : Int) * 2) = ((2 * r : Nat) : Int) := by rw [w64 (by omega) (by omega)]; omega
  rw [e1, shr_nat _ _ (by omega), bits_xor (by omega) (by omega)]
  unfold T
  by_cases h : 2 * r / 2 ^ deg p = 1
  · have h' : ((2 * r / 2 ^ deg p : Nat) : Int) = 1 := by rw [h]; rfl
    rw [if_pos h', if_pos h]
  · have h' : ¬ ((2 * r / 2 ^ deg p : Nat) : Int) = 1 := by omega
    rw [if_neg h', if_neg h]

/-! remainderI -/
theorem remainder_implL {p : Nat} (h1 : 2 ≤ p) (h2 : p ≤ 131071) (s : ByteArray) (hn : s.size ≤ 1099511627776) (hb : s.data.toList.all isBitB = true) : ∀ (d n r : Nat), n + d = s.size → r < 2 ^ deg p →
    Ev (fun k => impl_remainder.l0 k (p : Int) s (r : Int) (s.size : Int) (n : Int)) ((remN p (s.data.toList.drop n) r : Nat) : Int) := by
  intro d
  induction d with
  | zero =>
    intro n r h hr
    have c1 : ¬ ((n : Int) < (s.size : Int)) := by omega
    have c2 : s.data.toList.drop n = [] := List.drop_eq_nil_of_le (by rw [size_data]; omega)
    rw [c2]
    apply Ev.succ
    simp only [impl_remainder.l0, c1, if_false, remN]; exact Ev.now _
  | succ d ih =>
    intro n r h hr
    have hl : n < s.size := by omega
    have c1 : (n : Int) < (s.size : Int) := by omega
    have c2 : (0 : Int) ≤ (n : Int) := by omega
    have hT := T_lt h1 (p_lt64 h2) hr
    have hp := pow16 h1 h2
    have hd := deg_pos h1 (p_lt64 h2)
    have hp2 : 2 ≤ 2 ^ deg p := by
      have := Nat.pow_le_pow_right (show 0 < 2 by decide) hd
      simpa using this
    have hw := w64_succ (show n < 9223372036854775807 by omega)
    have hbt := bt_nat s n hl
    have hbit : isBitB (s[n]) = true := by
      rw [List.all_eq_true] at hb
      exact hb _ (by rw [← data_get hl]; exact List.getElem_mem _)
    rw [drop_data hl, remN]
    by_cases c : s[n] = 49
    · have c3 : bt s (n : Int) = 49 := by rw [hbt, c]; rfl
      have hx : T p r ^^^ 1 < 2 ^ deg p := Nat.xor_lt_two_pow hT (by omega)
      have h3 := ih (n + 1) (T p r ^^^ 1) (by omega) hx
      rw [if_pos c]
      apply Ev.succ
      have e : Go.bits .xor .i64 (T p r : Int) 1 = ((T p r ^^^ 1 : Nat) : Int) := bits_xor (b := 1) (by omega) (by omega)
      simp only [impl_remainder.l0, c1, c2, if_true, times_eq h1 h2 hr, Option.bind_some, c3, e, hw]; exact h3
    · have c48 : bt s (n : Int) = 48 := by
        rcases (isBit_iff _).1 hbit with h | h
        · rw [hbt]; exact h
        · exact absurd (UInt8.toNat_inj.1 (by show (s[n]).toNat = 49; omega)) c
      have h3 := ih (n + 1) (T p r ^^^ 0) (by omega) (by rw [Nat.xor_zero]; exact hT)
      rw [if_neg c]
      apply Ev.succ
      rw [Nat.xor_zero] at h3 ⊢
      simp only [impl_remainder.l0, c1, c2, if_true, times_eq h1 h2 hr, Option.bind_some, c48, Int.reduceEq, if_false, hw]; exact h3
theorem remainder_impl {p : Nat} (h1 : 2 ≤ p) (h2 : p ≤ 131071) (s : ByteArray) (hn : s.size ≤ 1099511627776) (hb : s.data.toList.all isBitB = true) :
    Ev (fun k => impl_remainder.f k (p : Int) s) ((remN p s.data.toList 0 : Nat) : Int) :=
  remainder_implL h1 h2 s hn hb s.size 0 0 (by omega) (Nat.two_pow_pos _)

/-! IsBits -/
theorem trim_bits (s : ByteArray) (h : s.size ≤ 9223372036854775807) : strings_Trim.f s (⟨#[48, 49]⟩ : ByteArray) = some ⟨(Lib.trimS s.data.toList [48, 49]).toArray⟩ := by
  unfold strings_Trim.f
  rw [if_pos ⟨h, by decide, by decide⟩]
theorem areBits_eq (s : ByteArray) (h : s.size ≤ 9223372036854775807) : impl_areBits.f s = some (s.data.toList.all isBitB) := by
  unfold impl_areBits.f
  rw [trim_bits s h, Option.bind_some]
  congr 1
  have e1 : (⟨(Lib.trimS s.data.toList [48, 49]).toArray⟩ : ByteArray).toList = Lib.trimS s.data.toList [48, 49] := by rw [Lib.toList_data]
  rw [e1, Bool.eq_iff_iff, beq_iff_eq, trimS_nil]
  have e2 : (fun b => ([48, 49] : List UInt8).contains b) = isBitB := funext contains_bits
  rw [e2]
theorem IsBits_eq (s : ByteArray) (h : s.size ≤ 9223372036854775807) : impl_IsBits.f s = some (bitsB s) := by
  unfold impl_IsBits.f bitsB
  by_cases h4 : s.size ≤ 400
  · have h4' : (s.size : Int) ≤ 400 := by omega
    simp only [h4', if_true, areBits_eq s h, Option.bind_some, h4, decide_true, Bool.and_true]
  · have h4' : ¬ (s.size : Int) ≤ 400 := by omega
    simp only [h4', if_false, h4, decide_false, Bool.and_false]

/-! HasCheckI -/
theorem HasCheck_impl {p : Nat} (h1 : 2 ≤ p) (h2 : p ≤ 131071) (s : ByteArray) (hn : s.size ≤ 400) (hb : s.data.toList.all isBitB = true) :
    Ev (fun k => impl_HasCheck.f k (p : Int) s) (((remN p s.data.toList 0 : Nat) : Int) == 0) := by
  have hbb : bitsB s = true := by unfold bitsB; rw [hb, decide_eq_true hn]; rfl
  have c1 := remainder_impl h1 h2 s (by omega) hb
  unfold impl_HasCheck.f
  refine Ev.bind (Ev.const (IsCheck_eq _)) ?_
  refine Ev.cond (fun _ => ?_) (fun h' => absurd (decide_eq_true ⟨by omega, by omega⟩) h')
  refine Ev.bind (Ev.const (IsBits_eq s (by omega))) ?_
  refine Ev.cond (fun _ => ?_) (fun h' => absurd hbb h')
  exact Ev.bind c1 (Ev.now _)

/-! remainder -/

/-! bitAt -/
theorem bit_at (x i : Nat) (hx : x < 2 ^ 62) (hi : i ≤ 63) : Go.bits .and .i64 (shr .i64 (x : Int) (i : Int)) 1 = ((x / 2 ^ i % 2 : Nat) : Int) := by
  rw [shr_nat _ _ hi]
  have e := bits_and (a := x / 2 ^ i) (b := 1) (Nat.lt_of_le_of_lt (Nat.div_le_self _ _) hx) (by decide)
  rw [Nat.and_one_is_mod] at e
  exact e
theorem shl_one {n : Nat} (h : n ≤ 61) : shl .i64 1 (n : Int) = ((2 ^ n : Nat) : Int) := by
  unfold shl
  have e : min (n : Int).toNat IntKind.i64.bits = n := by
    have : IntKind.i64.bits = 64 := rfl
    rw [this, Int.toNat_natCast]; omega
  have hlt : 2 ^ n < 2 ^ 62 := Nat.pow_lt_pow_right (by decide) (by omega)
  rw [e, Int.one_mul, IntKind.wrap_i64]
  have e2 : (2 : Int) ^ n = ((2 ^ n : Nat) : Int) := by push_cast; rfl
  rw [e2]
  generalize 2 ^ n = q at hlt ⊢
  omega

/-! checkBits -/
theorem digits_l0 (x : Nat) (hx : x < 2 ^ 62) : ∀ (w : Nat) (c : List Int), w ≤ 62 → c.length + w ≤ 1000 →
    Ev (fun k => impl_digits.l0 k (x : Int) c ((w : Int) - 1)) (strOfNums (c ++ dgts x w)) := by
  intro w
  induction w with
  | zero =>
    intro c hw hc
    have h1 : ¬ (((0 : Nat) : Int) - 1 ≥ 0) := by omega
    apply Ev.succ
    simp only [impl_digits.l0, h1, if_false, dgts, List.append_nil]; exact Ev.now _
  | succ w ih =>
    intro c hw hc
    have h1 : (((w + 1 : Nat) : Int) - 1) = (w : Int) := by omega
    have h2 : (w : Int) ≥ 0 := by omega
    have h2' : 0 ≤ (w : Int) := by omega
    have h3 : c.length < 140737488355328 := by omega
    have h4 := ih (c ++ [((48 + x / 2 ^ w % 2 : Nat) : Int)]) (by omega) (by simp; omega)
    have e1 := bit_at x w hx (by omega)
    have e2 : (48 + ((x / 2 ^ w % 2 : Nat) : Int)) % 256 = ((48 + x / 2 ^ w % 2 : Nat) : Int) := by omega
    have e3 : wrap64 ((w : Int) - 1) = (w : Int) - 1 := w64 (by omega) (by omega)
    apply Ev.succ
    rw [List.append_assoc] at h4
    simp only [impl_digits.l0, h1, h2, h2', h3, if_true, e1, e2, e3, dgts]
    exact h4
theorem digits_ev (x w : Nat) (hx : x < 2 ^ 62) (hw : w ≤ 62) : Ev (fun k => impl_digits.f k (x : Int) (w : Int)) (strOfNums (dgts x w)) := by
  unfold impl_digits.f
  have e : wrap64 ((w : Int) - 1) = (w : Int) - 1 := w64 (by omega) (by omega)
  rw [e]
  exact digits_l0 x hx w [] hw (by simp; omega)

/-! missed -/
theorem nways_step {l : List Nat} {n c r : Nat} (h : n < l.length) (hc : c ≠ 0) : nways (l.drop n) c r = nways (l.drop (n + 1)) (c - 1) (r ^^^ l[n]) + nways (l.drop (n + 1)) c r := by
  rw [List.drop_eq_getElem_cons h, nways, if_neg hc]
theorem nways_nil {c r : Nat} (hc : c ≠ 0) : nways [] c r = 0 := by
  unfold nways
  rw [if_neg (fun h => hc h.1)]
theorem missed_ev : ∀ (c : Nat) (l : List Nat) (r : Nat), c ≤ 4 → l.length ≤ 32 → (∀ x ∈ l, x < 65536) → r < 65536 → Ev (fun k => impl_missed.f k (castL l) (c : Int) (r : Int)) (nways l c r) := by
  intro c
  induction c with
  | zero =>
    intro l r _ _ _ _
    apply Ev.succ
    rw [nways_zero]
    simp only [impl_missed.f, Int.natCast_zero, if_true]
    by_cases h : r = 0
    · have h' : (r : Int) = 0 := by omega
      simp only [h, h', if_true]; exact Ev.now _
    · have h' : ¬ (r : Int) = 0 := by omega
      simp only [h, h', if_false]; exact Ev.now _
  | succ c ih =>
    intro l r hc hl hx hr
    apply Ev.succ
    have h0 : ¬ ((c + 1 : Nat) : Int) = 0 := by omega
    simp only [impl_missed.f, h0, if_false]
    have key : ∀ (d n : Nat) (s : Int), n + d = l.length → 0 ≤ s → s + nways (l.drop n) (c + 1) r ≤ 4294967296 →
        Ev (fun k => impl_missed.l0 k (castL l) ((c + 1 : Nat) : Int) (r : Int) s ((castL l).length : Int) (n : Int)) (s + nways (l.drop n) (c + 1) r) := by
      intro d
      induction d with
      | zero =>
        intro n s h hs0 hs
        have h1 : ¬ ((n : Int) < ((castL l).length : Int)) := by rw [castL_length]; omega
        have h2 : l.drop n = [] := List.drop_eq_nil_of_le (by omega)
        apply Ev.succ
        rw [h2, nways_nil (by omega), Int.add_zero]
        simp only [impl_missed.l0, h1, if_false]; exact Ev.now _
      | succ d ihd =>
        intro n s h hs0 hs
        have hlt : n < l.length := by omega
        have h1 : (n : Int) < ((castL l).length : Int) := by rw [castL_length]; omega
        have hw := w64_succ (show n < 9223372036854775807 by omega)
        have h2 : (0 : Int) ≤ ((n + 1 : Nat) : Int) := by omega
        have h3 : ((n + 1 : Nat) : Int) ≤ ((castL l).length : Int) := by rw [castL_length]; omega
        have h4 : (0 : Int) ≤ (n : Int) := by omega
        have e1 : wrap64 (((c + 1 : Nat) : Int) - 1) = (c : Int) := by rw [w64 (by omega) (by omega)]; omega
        have hm : l[n] < 65536 := hx _ (List.getElem_mem hlt)
        have e2 : Go.bits .xor .i64 (r : Int) (rd (castL l) (n : Int)) = ((r ^^^ l[n] : Nat) : Int) := by
          rw [rd_castL hlt]; exact bits_xor (by omega) (by omega)
        have hb := nways_bound (l.drop (n + 1)) c (r ^^^ l[n])
        have hb2 := nways_bound (l.drop (n + 1)) (c + 1) r
        have hst := nways_step (r := r) hlt (show c + 1 ≠ 0 by omega)
        rw [Nat.add_sub_cancel] at hst
        have hrec := ih (l.drop (n + 1)) (r ^^^ l[n]) (by omega) (by rw [List.length_drop]; omega) (fun x h => hx x (List.mem_of_mem_drop h)) (Nat.xor_lt_two_pow (n := 16) hr hm)
        have hnext := ihd (n + 1) (s + nways (l.drop (n + 1)) c (r ^^^ l[n])) (by omega) (by omega) (by rw [hst] at hs; omega)
        have e3 : wrap64 (s + nways (l.drop (n + 1)) c (r ^^^ l[n])) = s + nways (l.drop (n + 1)) c (r ^^^ l[n]) := w64 (by omega) (by rw [hst] at hs; omega)
        apply Ev.succ
        simp only [impl_missed.l0, h1, if_true, hw, h2, h3, h4, e1, e2, Int.toNat_natCast, castL_drop]
        refine Ev.bind hrec ?_
        simp only [e3]
        rw [hst, ← Int.add_assoc]
        exact hnext
    have hb := nways_bound l (c + 1) r
    have hp : 2 ^ l.length ≤ 4294967296 := by
      have := Nat.pow_le_pow_right (show 0 < 2 by decide) hl
      simpa using this
    have h := key l.length 0 0 (by omega) (by omega) (by rw [List.drop_zero]; omega)
    rw [Int.zero_add, List.drop_zero] at h
    exact h

/-! CountMissed -/
theorem one_lt {p : Nat} (h1 : 2 ≤ p) (h2 : p ≤ 131071) : 1 < 2 ^ deg p := by
  have := Nat.pow_le_pow_right (show 0 < 2 by decide) (deg_pos h1 (p_lt64 h2))
  simp at this; omega
def cntN (p len c : Nat) : Int := nways (pows p len 1) c 0
theorem cntN_bound (p len c : Nat) (h : len ≤ 32) : 0 ≤ cntN p len c ∧ cntN p len c ≤ 4294967296 := by
  have hb := nways_bound (pows p len 1) c 0
  rw [pows_length] at hb
  have := Nat.pow_le_pow_right (show 0 < 2 by decide) h
  unfold cntN
  simp at this
  omega
theorem pows_snoc (p : Nat) : ∀ (n r : Nat), pows p (n + 1) r = pows p n r ++ [iterT p n r] := by
  intro n
  induction n with
  | zero => intro r; rfl
  | succ n ih =>
    intro r
    rw [pows, ih (T p r)]; rfl
theorem iterT_succ (p : Nat) : ∀ (n r : Nat), iterT p (n + 1) r = T p (iterT p n r) := by
  intro n
  induction n with
  | zero => intro r; rfl
  | succ n ih => intro r; rw [iterT, ih (T p r)]; rfl
theorem iterT_lt {p : Nat} (h1 : 2 ≤ p) (h2 : p < 2 ^ 64) : ∀ (n r : Nat), r < 2 ^ deg p → iterT p n r < 2 ^ deg p := by
  intro n
  induction n with
  | zero => intro r hr; exact hr
  | succ n ih => intro r hr; exact ih _ (T_lt h1 h2 hr)
theorem count_l0 {p : Nat} (h1 : 2 ≤ p) (h2 : p ≤ 131071) (len c : Nat) (hlen : len ≤ 32) (hc : c ≤ 4) : ∀ (d n : Nat), n + d = len →
    Ev (fun k => impl_CountMissed.l0 k (p : Int) (c : Int) (castL (pows p n 1)) ((iterT p n 1 : Nat) : Int) (len : Int) (n : Int)) (cntN p len c, true) := by
  have hp := pow16 h1 h2
  intro d
  induction d with
  | zero =>
    intro n h
    obtain rfl : n = len := by omega
    have c1 : ¬ ((n : Int) < (n : Int)) := by omega
    apply Ev.succ
    simp only [impl_CountMissed.l0, c1, if_false]
    refine Ev.bind (missed_ev c (pows p n 1) 0 hc (by rw [pows_length]; exact hlen) (fun x hx => ?_) (by omega)) (Ev.now _)
    have := pows_lt h1 (p_lt64 h2) n 1 (one_lt h1 h2) x hx
    omega
  | succ d ih =>
    intro n h
    have c1 : (n : Int) < (len : Int) := by omega
    have c2 : (castL (pows p n 1)).length < 17592186044416 := by rw [castL_length, pows_length]; omega
    have h3 := ih (n + 1) (by omega)
    have hw := w64_succ (show n < 9223372036854775807 by omega)
    have hr := iterT_lt h1 (p_lt64 h2) n 1 (one_lt h1 h2)
    have e : castL (pows p (n + 1) 1) = castL (pows p n 1) ++ [((iterT p n 1 : Nat) : Int)] := by rw [pows_snoc]; simp [castL]
    rw [e, iterT_succ] at h3
    apply Ev.succ
    simp only [impl_CountMissed.l0, c1, c2, if_true, times_eq h1 h2 hr, Option.bind_some, hw]
    exact h3
def cntB (p len c : Int) : Bool := decide (2 ≤ p ∧ p ≤ 131071) && decide (1 ≤ len ∧ len ≤ 32) && decide (1 ≤ c ∧ c ≤ 4)
theorem CountMissed_impl (p len c : Int) : Ev (fun k => impl_CountMissed.f k p len c) (if cntB p len c = true then (cntN p.toNat len.toNat c.toNat, true) else (0, false)) := by
  unfold impl_CountMissed.f cntB
  simp only [IsCheck_eq, within_eq, Option.bind_some]
  by_cases c1 : 2 ≤ p ∧ p ≤ 131071
  · by_cases c2 : 1 ≤ len ∧ len ≤ 32
    · by_cases c3 : 1 ≤ c ∧ c ≤ 4
      · simp only [c1, c2, c3, and_self, decide_true, Bool.and_self, if_true, Bool.not_true]
        obtain ⟨P, rfl⟩ := Int.eq_ofNat_of_zero_le (show 0 ≤ p by omega)
        obtain ⟨L, rfl⟩ := Int.eq_ofNat_of_zero_le (show 0 ≤ len by omega)
        obtain ⟨C, rfl⟩ := Int.eq_ofNat_of_zero_le (show 0 ≤ c by omega)
        apply Ev.succ
        simp only [impl_CountMissed.j0, Bool.false_eq_true, if_false, Int.toNat_natCast]
        exact count_l0 (p := P) (by omega) (by omega) L C (by omega) (by omega) L 0 (by omega)
      · simp only [c1, c2, c3, and_self, decide_true, decide_false, Bool.and_false, if_true, Bool.not_false, Bool.false_eq_true, if_false]
        apply Ev.succ
        simp only [impl_CountMissed.j0, if_true]; exact Ev.now _
    · simp only [c1, c2, and_self, decide_true, decide_false, Bool.and_false, Bool.false_and, if_true, Bool.false_eq_true, if_false]
      apply Ev.succ
      simp only [impl_CountMissed.j0, if_true]; exact Ev.now _
  · simp only [c1, decide_false, Bool.false_and, Bool.false_eq_true, if_false]
    apply Ev.succ
    simp only [impl_CountMissed.j0, if_true]; exact Ev.now _

/-! r8 -/
theorem wf_u8 {x : Int} (h : (Lit.int .u8 x).wf = true) : 0 ≤ x ∧ x ≤ 255 := by
  have h1 : decide (IntKind.min .u8 ≤ x) = true ∧ decide (x ≤ IntKind.max .u8) = true := by
    simpa [Lit.wf] using h
  obtain ⟨ha, hb⟩ := h1
  have ha := of_decide_eq_true ha
  have hb := of_decide_eq_true hb
  have e1 : IntKind.min .u8 = 0 := by decide
  have e2 : IntKind.max .u8 = 255 := by decide
  rw [e1] at ha
  rw [e2] at hb
  exact ⟨ha, hb⟩
theorem r8At_eq (l : List Int) (h : ∀ x ∈ l, (Lit.int .u8 x).wf = true) (a n : Int) (ha : 0 ≤ a) (hn : 1 ≤ n) : ∃ t, laws_r8At.f l a n = some t ∧ 0 ≤ t ∧ t < n := by
  unfold laws_r8At.f
  by_cases h1 : n ≤ 1
  · exact ⟨0, by rw [if_pos h1], by omega, by omega⟩
  by_cases h2 : a ≥ (l.length : Int)
  · exact ⟨0, by rw [if_neg h1, if_pos h2], by omega, by omega⟩
  obtain ⟨m, rfl⟩ := Int.eq_ofNat_of_zero_le ha
  have hm : m < l.length := by omega
  have hx := wf_u8 (h _ (rd_mem hm))
  have h0 : 0 ≤ Int.tmod (rd l (m : Int)) n := Int.tmod_nonneg _ hx.1
  have h3 : Int.tmod (rd l (m : Int)) n < n := Int.tmod_lt_of_pos _ (by omega)
  refine ⟨Int.tmod (rd l (m : Int)) n, ?_, h0, h3⟩
  rw [if_neg h1, if_neg h2, if_pos (by omega), if_pos (by omega), if_neg (by omega), w64 (by omega) (by omega)]
theorem r8Long_eq (l m : List Int) : ∃ b, laws_r8Long.f l m = some b ∧ (b = false → l.length ≤ 48 ∧ m.length ≤ 48) := by
  unfold laws_r8Long.f
  by_cases h : (l.length : Int) > 48
  · exact ⟨true, by rw [if_pos h], by simp⟩
  · refine ⟨decide ((m.length : Int) > 48), by rw [if_neg h], fun h2 => ?_⟩
    have h3 := of_decide_eq_false h2
    omega

/-! src -/
theorem u64_mod (z : Int) : IntKind.u64.wrap z = z % 18446744073709551616 := by simp [IntKind.wrap, IntKind.bits, IntKind.signed]
theorem u64_and255 (z : Int) : 0 ≤ wrap64 (Go.bits .and .u64 ((IntKind.u64.wrap z) / 1099511627776) 255) ∧ wrap64 (Go.bits .and .u64 ((IntKind.u64.wrap z) / 1099511627776) 255) ≤ 255 := by
  obtain ⟨Y, hY⟩ := Int.eq_ofNat_of_zero_le (show 0 ≤ (IntKind.u64.wrap z) / 1099511627776 by rw [u64_mod]; omega)
  have hlt : Y < 18446744073709551616 := by rw [u64_mod] at hY; omega
  rw [hY]
  have h2 : Go.bits .and .u64 (Y : Int) 255 = ((Y &&& 255 : Nat) : Int) := bits_and_u64_nat Y 255 hlt (by decide)
  rw [h2]
  have h3 : Y &&& 255 ≤ 255 := Nat.and_le_right
  rw [w64 (by omega) (by omega)]
  omega
theorem src_next (l : List Int) (h : ∀ x ∈ l, (Lit.int .u8 x).wf = true) (p : Nat) (hs : Int) (hp : p < 1099511627776) : ∃ v hs', spec_l00Src_next.f l (p : Int) hs = some (v, ((p + 1 : Nat) : Int), hs') ∧ 0 ≤ v ∧ v ≤ 255 := by
  have hw : wrap64 ((p : Int) + 1) = ((p + 1 : Nat) : Int) := w64_succ (by omega)
  unfold spec_l00Src_next.f
  by_cases h1 : p < l.length
  · have hx := wf_u8 (h _ (rd_mem h1))
    rw [if_pos (show (p : Int) < (l.length : Int) by omega), if_pos (show (0 : Int) ≤ (p : Int) by omega), hw, if_pos (show ((p + 1 : Nat) : Int) ≤ (l.length : Int) by omega)]
    refine ⟨_, _, rfl, ?_⟩
    rw [w64 (by omega) (by omega)]
    exact hx
  · rw [if_neg (show ¬ (p : Int) < (l.length : Int) by omega), hw, if_neg (show ¬ ((p + 1 : Nat) : Int) ≤ (l.length : Int) by omega)]
    exact ⟨_, _, rfl, u64_and255 _⟩
theorem src_pick (l : List Int) (h : ∀ x ∈ l, (Lit.int .u8 x).wf = true) (p : Nat) (hs a : Int) (hp : p < 1099511627776) (ha : 2 ≤ a) (ha2 : a ≤ 200) : ∃ v hs', spec_l00Src_pick.f l (p : Int) hs a = some (v, ((p + 1 : Nat) : Int), hs') ∧ 0 ≤ v ∧ v < a := by
  obtain ⟨v, hs', h1, h2, h3⟩ := src_next l h p hs hp
  unfold spec_l00Src_pick.f
  rw [if_neg (by omega), h1, Option.bind_some, if_neg (by omega), if_neg (by omega)]
  exact ⟨_, _, rfl, Int.tmod_nonneg _ h2, Int.tmod_lt_of_pos _ (by omega)⟩

/-! strs -/
theorem str_size (l : List Int) : (strOfNums l).size = l.length := by
  show (strOfNums l).data.size = _
  simp [strOfNums]
theorem bt_str {xs : List Int} {k : Nat} (hk : k < xs.length) (h : 0 ≤ xs[k] ∧ xs[k] ≤ 255) : bt (strOfNums xs) (k : Int) = xs[k] := by
  have hk' : k < (strOfNums xs).size := by rw [str_size]; exact hk
  rw [bt_nat _ _ hk']
  have e : (strOfNums xs)[k]'hk' = UInt8.ofNat (xs[k]).toNat := by
    show (strOfNums xs).data[k]'_ = _
    simp [strOfNums]
  rw [e, UInt8.toNat_ofNat']
  omega
theorem all_bits_iff (s : ByteArray) : s.data.toList.all isBitB = true ↔ ∀ k : Nat, k < s.size → (bt s (k : Int) = 48 ∨ bt s (k : Int) = 49) := by
  rw [List.all_eq_true]
  constructor
  · intro h k hk
    rw [bt_nat s k hk]
    refine (isBit_iff _).1 (h _ ?_)
    rw [← data_get hk]; exact List.getElem_mem _
  · intro h b hb
    obtain ⟨k, hk, rfl⟩ := List.mem_iff_getElem.1 hb
    have hk' : k < s.size := by rw [← size_data]; exact hk
    rw [isBit_iff, data_get hk', ← bt_nat s k hk']
    exact h k hk'
theorem str_ext {s t : ByteArray} (h : s.size = t.size) (h2 : ∀ k : Nat, k < s.size → bt s (k : Int) = bt t (k : Int)) : s = t := by
  apply ByteArray.ext
  apply Array.ext
  · exact h
  · intro k h3 h4
    have e := h2 k h3
    rw [bt_nat s k h3, bt_nat t k h4] at e
    exact UInt8.toNat_inj.1 (by exact_mod_cast e)

/-! R8Bits -/
theorem src_one (l : List Int) (h : ∀ x ∈ l, (Lit.int .u8 x).wf = true) (p : Nat) (hs : Int) (hp : p < 1099511627776) : ∃ b hs', spec_l00Src_one.f l (p : Int) hs 2 = some (b, ((p + 1 : Nat) : Int), hs') := by
  obtain ⟨v, hs', h1, h2, h3⟩ := src_pick l h p hs 2 hp (by omega) (by omega)
  unfold spec_l00Src_one.f
  rw [h1, Option.bind_some]
  exact ⟨_, _, rfl⟩
theorem R8Bits_l0 (l : List Int) (h : ∀ x ∈ l, (Lit.int .u8 x).wf = true) : ∀ (d : Nat) (xs : List Int) (p : Nat) (hs : Int), p + 2 * d ≤ 1000000 → xs.length + d ≤ 1000 → (∀ x ∈ xs, x = 48 ∨ x = 49) →
    ∃ ys, Ev (fun k => spec_R8Bits.l0 k xs (d : Int) l (p : Int) hs) (strOfNums ys) ∧ ys.length = xs.length + d ∧ ∀ x ∈ ys, x = 48 ∨ x = 49 := by
  intro d
  induction d with
  | zero =>
    intro xs p hs h1 h2 hx
    have c1 : ¬ ((0 : Nat) : Int) > 0 := by omega
    refine ⟨xs, Ev.succ ?_, rfl, hx⟩
    simp only [spec_R8Bits.l0]
    refine Ev.cond (fun h' => absurd h' c1) (fun _ => Ev.now _)
  | succ d ih =>
    intro xs p hs h1 h2 hx
    have c1 : ((d + 1 : Nat) : Int) > 0 := by omega
    have c2 : xs.length < 140737488355328 := by omega
    have hw : wrap64 (((d + 1 : Nat) : Int) - 1) = (d : Int) := by rw [w64 (by omega) (by omega)]; omega
    obtain ⟨v, hs1, e1, v0, v1⟩ := src_pick l h p hs 2 (by omega) (by omega) (by omega)
    obtain ⟨b, hs2, e2⟩ := src_one l h (p + 1) hs1 (by omega)
    have hv : (wrap64 (48 + v)) % 256 = 48 ∨ (wrap64 (48 + v)) % 256 = 49 := by
      rw [w64 (by omega) (by omega)]; omega
    have app : ∀ y : Int, (y = 48 ∨ y = 49) → ∀ x ∈ xs ++ [y], x = 48 ∨ x = 49 := by
      intro y hy x hm
      rcases List.mem_append.1 hm with hm | hm
      · exact hx x hm
      · rw [List.mem_singleton] at hm; rw [hm]; exact hy
    by_cases h0 : (xs.length : Int) > 0
    · have hlast : wrap64 ((xs.length : Int) - 1) = ((xs.length - 1 : Nat) : Int) := by rw [w64 (by omega) (by omega)]; omega
      have c3 : (0 : Int) ≤ ((xs.length - 1 : Nat) : Int) := by omega
      have c4 : ((xs.length - 1 : Nat) : Int) < (xs.length : Int) := by omega
      by_cases hb : b = true
      · have hr : rd xs ((xs.length - 1 : Nat) : Int) = 48 ∨ rd xs ((xs.length - 1 : Nat) : Int) = 49 := hx _ (rd_mem (by omega))
        obtain ⟨ys, y1, y2, y3⟩ := ih (xs ++ [rd xs ((xs.length - 1 : Nat) : Int)]) (p + 2) hs2 (by omega) (by rw [List.length_append, List.length_singleton]; omega) (app _ hr)
        refine ⟨ys, Ev.succ ?_, by rw [y2, List.length_append, List.length_singleton]; omega, y3⟩
        simp only [spec_R8Bits.l0, hw, hlast]
        refine Ev.cond (fun _ => ?_) (fun h' => absurd c1 h')
        refine Ev.bind (Ev.const e1) ?_
        refine Ev.cond (fun _ => ?_) (fun h' => absurd h0 h')
        refine Ev.bind (Ev.const e2) ?_
        refine Ev.cond (fun _ => ?_) (fun h' => absurd hb h')
        refine Ev.cond (fun _ => ?_) (fun h' => absurd c3 h')
        refine Ev.cond (fun _ => ?_) (fun h' => absurd c4 h')
        exact Ev.cond (fun _ => y1) (fun h' => absurd c2 h')
      · obtain ⟨ys, y1, y2, y3⟩ := ih (xs ++ [(wrap64 (48 + v)) % 256]) (p + 2) hs2 (by omega) (by rw [List.length_append, List.length_singleton]; omega) (app _ hv)
        refine ⟨ys, Ev.succ ?_, by rw [y2, List.length_append, List.length_singleton]; omega, y3⟩
        simp only [spec_R8Bits.l0, hw, hlast]
        refine Ev.cond (fun _ => ?_) (fun h' => absurd c1 h')
        refine Ev.bind (Ev.const e1) ?_
        refine Ev.cond (fun _ => ?_) (fun h' => absurd h0 h')
        refine Ev.bind (Ev.const e2) ?_
        refine Ev.cond (fun h' => absurd h' hb) (fun _ => ?_)
        exact Ev.cond (fun _ => y1) (fun h' => absurd c2 h')
    · obtain ⟨ys, y1, y2, y3⟩ := ih (xs ++ [(wrap64 (48 + v)) % 256]) (p + 1) hs1 (by omega) (by rw [List.length_append, List.length_singleton]; omega) (app _ hv)
      refine ⟨ys, Ev.succ ?_, by rw [y2, List.length_append, List.length_singleton]; omega, y3⟩
      simp only [spec_R8Bits.l0, hw]
      refine Ev.cond (fun _ => ?_) (fun h' => absurd c1 h')
      refine Ev.bind (Ev.const e1) ?_
      refine Ev.cond (fun h' => absurd h' h0) (fun _ => ?_)
      exact Ev.cond (fun _ => y1) (fun h' => absurd c2 h')
theorem str_bits {ys : List Int} (h : ∀ x ∈ ys, x = 48 ∨ x = 49) : (strOfNums ys).data.toList.all isBitB = true := by
  rw [List.all_eq_true]
  intro b hb
  have e : (strOfNums ys).data.toList = ys.map fun n => UInt8.ofNat n.toNat := by simp [strOfNums]
  rw [e, List.mem_map] at hb
  obtain ⟨x, hx, rfl⟩ := hb
  rcases h x hx with rfl | rfl <;> decide
theorem R8Bits_ev (l : List Int) (h : ∀ x ∈ l, (Lit.int .u8 x).wf = true) (n : Nat) (hn1 : 1 ≤ n) (hn : n ≤ 100) : ∃ s : ByteArray, Ev (fun k => spec_R8Bits.f k l (n : Int)) s ∧ s.size ≤ n ∧ s.data.toList.all isBitB = true := by
  have hw : wrap64 ((n : Int) + 1) = (n : Int) + 1 := w64 (by omega) (by omega)
  obtain ⟨v, hs, e1, v0, v1⟩ := src_pick l h 0 0 ((n : Int) + 1) (by omega) (by omega) (by omega)
  obtain ⟨v, rfl⟩ := Int.eq_ofNat_of_zero_le v0
  obtain ⟨ys, y1, y2, y3⟩ := R8Bits_l0 l h v [] 1 hs (by omega) (by simp; omega) (by simp)
  refine ⟨strOfNums ys, ?_, by rw [str_size, y2, List.length_nil]; omega, str_bits y3⟩
  unfold spec_R8Bits.f spec_l00From.f
  refine Ev.bind (Ev.const rfl) ?_
  rw [hw]
  exact Ev.bind (Ev.const e1) y1

/-! R8Check -/
theorem R8Check_eq (l : List Int) (h : ∀ x ∈ l, (Lit.int .u8 x).wf = true) : ∃ p : Nat, spec_R8Check.f l = some (p : Int) ∧ 2 ≤ p ∧ p ≤ 127 := by
  obtain ⟨v, hs', h1, h2, h3⟩ := src_pick l h 0 0 126 (by omega) (by omega) (by omega)
  obtain ⟨v, rfl⟩ := Int.eq_ofNat_of_zero_le h2
  unfold spec_R8Check.f spec_l00From.f
  rw [Option.bind_some]
  show ∃ p : Nat, (spec_l00Src_pick.f l ((0 : Nat) : Int) 0 126).bind _ = some (p : Int) ∧ _
  rw [h1, Option.bind_some]
  refine ⟨v + 2, ?_, by omega, by omega⟩
  rw [w64 (by omega) (by omega)]
  congr 1
  omega

theorem bitU_of {l : List UInt8} (h : l.all isBitB = true) : ∀ c ∈ l, bitU c := by
  intro c hc
  rw [List.all_eq_true] at h
  rcases (isBit_iff _).1 (h c hc) with e | e
  · exact .inl (UInt8.toNat_inj.1 (by show c.toNat = 48; omega))
  · exact .inr (UInt8.toNat_inj.1 (by show c.toNat = 49; omega))
theorem of_bitU {l : List UInt8} (h : ∀ c ∈ l, bitU c) : l.all isBitB = true := by
  rw [List.all_eq_true]
  intro c hc
  rcases h c hc with rfl | rfl <;> decide
theorem xorB_bitU : ∀ (a b : List UInt8), ∀ c ∈ xorB a b, bitU c := by
  intro a
  induction a with
  | nil => intro b c hc; exact absurd hc (by simp [xorB])
  | cons x a ih =>
    intro b c hc
    cases b with
    | nil => exact absurd hc (by simp [xorB])
    | cons y b =>
      simp only [xorB] at hc
      rcases List.mem_cons.1 hc with rfl | hc
      · by_cases h : x = y
        · rw [if_pos h]; exact .inl rfl
        · rw [if_neg h]; exact .inr rfl
      · exact ih b c hc
def xorS (a b : ByteArray) : ByteArray := ⟨(xorB a.data.toList b.data.toList).toArray⟩
theorem xorS_data (a b : ByteArray) : (xorS a b).data.toList = xorB a.data.toList b.data.toList := rfl
theorem xorS_size (a b : ByteArray) (h : a.size = b.size) : (xorS a b).size = a.size := by
  rw [← size_data, xorS_data, xorB_len _ _ (by rw [size_data, size_data]; exact h), size_data]
theorem str_same {s t : ByteArray} (h : s.data.toList = t.data.toList) : s = t := ByteArray.ext (Array.ext' h)
theorem xor_l0 (a b : ByteArray) (h : a.size = b.size) (hs : a.size ≤ 1000) : ∀ (d n : Nat) (o : ByteArray), n + d = a.size → o.size ≤ n →
    Ev (fun k => impl_xorBits.l0 k a b o (n : Int)) (o ++ (⟨(xorB (a.data.toList.drop n) (b.data.toList.drop n)).toArray⟩ : ByteArray)) := by
  intro d
  induction d with
  | zero =>
    intro n o hd ho
    have c1 : ¬ (n : Int) < (a.size : Int) := by omega
    have e : a.data.toList.drop n = [] := List.drop_eq_nil_of_le (by rw [size_data]; omega)
    rw [e]
    have e2 : o ++ (⟨(xorB [] (b.data.toList.drop n)).toArray⟩ : ByteArray) = o := by
      apply str_same
      rw [ByteArray.data_append, Array.toList_append]
      simp [xorB]
    rw [e2]
    apply Ev.succ
    simp only [impl_xorBits.l0]
    exact Ev.cond (fun h' => absurd h' c1) (fun _ => Ev.now _)
  | succ d ih =>
    intro n o hd ho
    have hn : n < a.size := by omega
    have hn2 : n < b.size := by omega
    have c1 : (n : Int) < (a.size : Int) := by omega
    have c2 : (0 : Int) ≤ (n : Int) := by omega
    have c3 : (n : Int) < (b.size : Int) := by omega
    have e1 : impl_bitOf.f (bt a (n : Int) != bt b (n : Int)) = some (⟨#[if a[n] = b[n] then 48 else 49]⟩ : ByteArray) := by
      rw [bt_nat a n hn, bt_nat b n hn2]
      unfold impl_bitOf.f
      by_cases e : a[n] = b[n]
      · rw [if_pos e, e, bne_self_eq_false]; rfl
      · have e3 : (((a[n]).toNat : Int) != ((b[n]).toNat : Int)) = true := bne_iff_ne.2 (fun e4 => e (UInt8.toNat_inj.1 (by omega)))
        rw [if_neg e, e3]; rfl
    have hsz : (⟨#[if a[n] = b[n] then (48 : UInt8) else 49]⟩ : ByteArray).size = 1 := rfl
    have h3 := ih (n + 1) (o ++ (⟨#[if a[n] = b[n] then 48 else 49]⟩ : ByteArray)) (by omega) (by rw [ByteArray.size_append, hsz]; omega)
    have e5 : o ++ (⟨#[if a[n] = b[n] then 48 else 49]⟩ : ByteArray) ++ (⟨(xorB (a.data.toList.drop (n + 1)) (b.data.toList.drop (n + 1))).toArray⟩ : ByteArray) = o ++ (⟨(xorB (a.data.toList.drop n) (b.data.toList.drop n)).toArray⟩ : ByteArray) := by
      rw [drop_data hn, drop_data hn2]
      apply str_same
      simp only [xorB, ByteArray.data_append, Array.toList_append, List.append_assoc]
      rfl
    rw [e5] at h3
    apply Ev.succ
    simp only [impl_xorBits.l0]
    refine Ev.cond (fun _ => ?_) (fun h' => absurd c1 h')
    refine Ev.cond (fun _ => ?_) (fun h' => absurd c2 h')
    refine Ev.cond (fun _ => ?_) (fun h' => absurd c3 h')
    refine Ev.bind (Ev.const e1) ?_
    refine Ev.cond (fun _ => ?_) (fun h' => absurd (show o.size + (⟨#[if a[n] = b[n] then (48 : UInt8) else 49]⟩ : ByteArray).size ≤ 140737488355328 by rw [hsz]; omega) h')
    rw [w64_succ (show n < 9223372036854775807 by omega)]
    exact h3
theorem bitsB_all {s : ByteArray} (h : s.data.toList.all isBitB = true) (hs : s.size ≤ 400) : bitsB s = true := by unfold bitsB; rw [h, decide_eq_true hs]; rfl
theorem XorBits_ev (a b : ByteArray) (h : a.size = b.size) (hs : a.size ≤ 400) (ha : a.data.toList.all isBitB = true) (hb : b.data.toList.all isBitB = true) : Ev (fun k => impl_XorBits.f k a b) (xorS a b, true) := by
  have c1 : (a.size : Int) = (b.size : Int) := by omega
  have h3 := xor_l0 a b h (by omega) a.size 0 (⟨#[]⟩ : ByteArray) (by omega) (Nat.le_refl _)
  have e : (⟨#[]⟩ : ByteArray) ++ (⟨(xorB (a.data.toList.drop 0) (b.data.toList.drop 0)).toArray⟩ : ByteArray) = xorS a b := by
    apply str_same
    rw [ByteArray.data_append, Array.toList_append, List.drop_zero, List.drop_zero]; rfl
  rw [e] at h3
  unfold impl_XorBits.f
  refine Ev.bind (Ev.const (IsBits_eq a (by omega))) ?_
  rw [bitsB_all ha hs]
  refine Ev.cond (fun _ => ?_) (fun h' => absurd (by trivial) h')
  refine Ev.bind (Ev.const (IsBits_eq b (by omega))) ?_
  rw [bitsB_all hb (by omega)]
  refine Ev.cond (fun _ => ?_) (fun h' => absurd (by trivial) h')
  refine Ev.cond (fun _ => ?_) (fun h' => absurd c1 h')
  unfold impl_xorBits.f
  exact Ev.bind h3 (Ev.now _)
theorem CBi_l0 {p : Nat} (h1 : 2 ≤ p) (h2 : p ≤ 131071) : ∀ (d n r : Nat), n + d = deg p → r < 2 ^ deg p →
    Ev (fun k => impl_checkBits.l0 k (p : Int) (r : Int) (deg p : Int) (n : Int)) (strOfNums (dgts (iterT p d r) (deg p))) := by
  have hp := pow16 h1 h2
  have hd16 := deg16 h1 h2
  intro d
  induction d with
  | zero =>
    intro n r h hr
    have c1 : ¬ (n : Int) < (deg p : Int) := by omega
    have hr2 : r < 2 ^ 62 := Nat.lt_of_lt_of_le hr (Nat.le_trans hp (by decide))
    apply Ev.succ
    simp only [impl_checkBits.l0]
    refine Ev.cond (fun h' => absurd h' c1) (fun _ => ?_)
    refine Ev.bind (Ev.const (degree_eq h1 h2)) ?_
    exact Ev.bind (digits_ev r (deg p) hr2 (by omega)) (Ev.now _)
  | succ d ih =>
    intro n r h hr
    have c1 : (n : Int) < (deg p : Int) := by omega
    have h3 := ih (n + 1) (T p r) (by omega) (T_lt h1 (p_lt64 h2) hr)
    apply Ev.succ
    simp only [impl_checkBits.l0]
    refine Ev.cond (fun _ => ?_) (fun h' => absurd c1 h')
    refine Ev.bind (Ev.const (times_eq h1 h2 hr)) ?_
    rw [w64_succ (show n < 9223372036854775807 by omega)]
    exact h3
def chk (p : Nat) (s : ByteArray) : ByteArray := strOfNums (checkN p s.data.toList)
theorem chk_impl {p : Nat} (h1 : 2 ≤ p) (h2 : p ≤ 131071) (s : ByteArray) (hn : s.size ≤ 400) (hb : s.data.toList.all isBitB = true) : Ev (fun k => impl_checkBits.f k (p : Int) s) (chk p s) := by
  have hr := remN_lt h1 (p_lt64 h2) s.data.toList 0 (Nat.two_pow_pos _)
  unfold impl_checkBits.f
  refine Ev.bind (remainder_impl h1 h2 s (by omega) hb) ?_
  refine Ev.bind (Ev.const (degree_eq h1 h2)) ?_
  exact CBi_l0 h1 h2 (deg p) 0 _ (by omega) hr
theorem dgts_data (x : Nat) : ∀ w, (dgts x w).map (fun n => UInt8.ofNat n.toNat) = dgB x w := by
  intro w
  induction w with
  | zero => rfl
  | succ w ih =>
    simp only [dgts, dgB, List.map_cons, ih]
    congr 1
    have h : x / 2 ^ w % 2 = 0 ∨ x / 2 ^ w % 2 = 1 := by omega
    rcases h with h | h <;> rw [h] <;> decide
theorem chk_data (p : Nat) (s : ByteArray) : (chk p s).data.toList = dgB (iterT p (deg p) (remN p s.data.toList 0)) (deg p) := by
  unfold chk checkN
  rw [← dgts_data]
  simp [strOfNums]
theorem chk_size (p : Nat) (s : ByteArray) : (chk p s).size = deg p := by rw [← size_data, chk_data, dgB_length]
theorem CheckBits_iev {p : Nat} (h1 : 2 ≤ p) (h2 : p ≤ 131071) (s : ByteArray) (hn : s.size ≤ 400) (hb : s.data.toList.all isBitB = true) : Ev (fun k => impl_CheckBits.f k (p : Int) s) (chk p s, true) := by
  unfold impl_CheckBits.f
  refine Ev.bind (Ev.const (IsCheck_eq _)) ?_
  refine Ev.cond (fun _ => ?_) (fun h' => absurd (decide_eq_true ⟨by omega, by omega⟩) h')
  refine Ev.bind (Ev.const (IsBits_eq s (by omega))) ?_
  refine Ev.cond (fun _ => ?_) (fun h' => absurd (bitsB_all hb hn) h')
  exact Ev.bind (chk_impl h1 h2 s hn hb) (Ev.now _)
theorem AddCheck_iev {p : Nat} (h1 : 2 ≤ p) (h2 : p ≤ 131071) (s : ByteArray) (hn : s.size ≤ 300) (hb : s.data.toList.all isBitB = true) : Ev (fun k => impl_AddCheck.f k (p : Int) s) (s ++ chk p s, true) := by
  have hd16 := deg16 h1 h2
  have hw : wrap64 ((s.size : Int) + (deg p : Int)) = (s.size : Int) + (deg p : Int) := w64 (by omega) (by omega)
  unfold impl_AddCheck.f
  refine Ev.bind (Ev.const (IsCheck_eq _)) ?_
  refine Ev.cond (fun _ => ?_) (fun h' => absurd (decide_eq_true ⟨by omega, by omega⟩) h')
  refine Ev.bind (Ev.const (IsBits_eq s (by omega))) ?_
  refine Ev.cond (fun _ => ?_) (fun h' => absurd (bitsB_all hb (by omega)) h')
  refine Ev.bind (Ev.const (degree_eq h1 h2)) ?_
  rw [hw]
  refine Ev.cond (fun h' => absurd h' (by omega)) (fun _ => ?_)
  refine Ev.bind (chk_impl h1 h2 s (by omega) hb) ?_
  exact Ev.cond (fun _ => Ev.now _) (fun h' => absurd (show s.size + (chk p s).size ≤ 9223372036854775807 by rw [chk_size]; omega) h')
theorem xorB_same (a : List UInt8) (h : ∀ c ∈ a, bitU c) : xorB a (List.replicate a.length 48) = a := by
  induction a with
  | nil => rfl
  | cons x a ih =>
    rw [List.length_cons, List.replicate_succ]
    simp only [xorB]
    rw [ih (fun c hc => h c (List.mem_cons_of_mem _ hc))]
    rcases h x List.mem_cons_self with rfl | rfl <;> rfl
theorem flip_eq : ∀ (l : List UInt8) (i : Nat) (hi : i < l.length), (∀ c ∈ l, bitU c) → flipB l i = l.take i ++ (if l[i] = 49 then 48 else 49) :: l.drop (i + 1) := by
  intro l
  induction l with
  | nil => intro i hi; exact absurd hi (by simp)
  | cons x l ih =>
    intro i hi h
    have hl := fun c hc => h c (List.mem_cons_of_mem _ hc)
    unfold flipB
    cases i with
    | zero =>
      have e : (x :: l).length - 1 - 0 = l.length := by simp
      rw [e, List.replicate_zero, List.nil_append]
      simp only [xorB, List.take_zero, List.nil_append, List.getElem_cons_zero, List.drop_succ_cons, List.drop_zero]
      rw [xorB_same l hl]
    | succ i =>
      have hi2 : i < l.length := by simpa using hi
      have e : (x :: l).length - 1 - (i + 1) = l.length - 1 - i := by simp only [List.length_cons]; omega
      have h3 := ih i hi2 hl
      unfold flipB at h3
      rw [e, List.replicate_succ, List.cons_append]
      simp only [xorB, List.take_succ_cons, List.cons_append, List.getElem_cons_succ, List.drop_succ_cons]
      rw [h3]
      rcases h x List.mem_cons_self with rfl | rfl <;> rfl
theorem CK_j1 {P : Nat} (h1 : 2 ≤ P) (h2 : P ≤ 127) (m : List Int) (hm : ∀ x ∈ m, (Lit.int .u8 x).wf = true) (F : ByteArray) (hF1 : 1 ≤ F.size) (hF2 : F.size ≤ 32) (hb : F.data.toList.all isBitB = true) (h0 : remN P F.data.toList 0 = 0) :
    Ev (fun k => laws_FnChecks.j1 k m (P : Int) F false) true := by
  obtain ⟨i, hi, hi0, hi1⟩ := r8At_eq m hm 30 (F.size : Int) (by omega) (by omega)
  obtain ⟨i, rfl⟩ := Int.eq_ofNat_of_zero_le hi0
  have hiF : i < F.size := by omega
  have hiL : i < F.data.toList.length := by rw [size_data]; exact hiF
  have hU := bitU_of hb
  have hget : F.data.toList[i] = F[i] := data_get hiF
  have c1 : (0 : Int) ≤ (i : Int) := by omega
  have c2 : (i : Int) ≤ (F.size : Int) := by omega
  have c3 : (i : Int) < (F.size : Int) := by omega
  have hw : wrap64 ((i : Int) + 1) = ((i + 1 : Nat) : Int) := w64_succ (by omega)
  have c4 : (0 : Int) ≤ ((i + 1 : Nat) : Int) := by omega
  have c5 : ((i + 1 : Nat) : Int) ≤ (F.size : Int) := by omega
  have hbit : bt F (i : Int) = 48 ∨ bt F (i : Int) = 49 := (all_bits_iff F).1 hb i hiF
  have hy : (strOfNums ([(97 - bt F (i : Int)) % 256] : List Int)).data.toList = [if F.data.toList[i] = 49 then 48 else 49] := by
    rw [hget]
    have hv := bt_nat F i hiF
    rcases hbit with e | e
    · have e2 : F[i] = 48 := UInt8.toNat_inj.1 (by show (F[i]).toNat = 48; omega)
      rw [e, e2]; decide
    · have e2 : F[i] = 49 := UInt8.toNat_inj.1 (by show (F[i]).toNat = 49; omega)
      rw [e, e2]; decide
  have hB : ((F.extract 0 i ++ strOfNums ([(97 - bt F (i : Int)) % 256] : List Int)) ++ F.extract (i + 1) F.size).data.toList = flipB F.data.toList i := by
    rw [flip_eq _ i hiL hU, ByteArray.data_append, Array.toList_append, ByteArray.data_append, Array.toList_append, hy, ByteArray.data_extract, ByteArray.data_extract, Array.toList_extract, Array.toList_extract]
    simp only [List.extract_eq_take_drop, List.drop_zero, Nat.sub_zero, List.append_assoc, List.singleton_append]
    congr 2
    rw [List.take_of_length_le (by rw [List.length_drop, size_data]; omega)]
  have hsz1 : (F.extract 0 i).size ≤ 1000 := by rw [ByteArray.size_extract]; omega
  have hsz2 : (F.extract (i + 1) F.size).size ≤ 1000 := by rw [ByteArray.size_extract]; omega
  have hsz3 : (strOfNums ([(97 - bt F (i : Int)) % 256] : List Int)).size = 1 := by rw [str_size]; rfl
  have c6 : (F.extract 0 i).size + (strOfNums ([(97 - bt F (i : Int)) % 256] : List Int)).size ≤ 9223372036854775807 := by omega
  have c7 : (F.extract 0 i ++ strOfNums ([(97 - bt F (i : Int)) % 256] : List Int)).size + (F.extract (i + 1) F.size).size ≤ 9223372036854775807 := by rw [ByteArray.size_append]; omega
  generalize hbent : (F.extract 0 i ++ strOfNums ([(97 - bt F (i : Int)) % 256] : List Int)) ++ F.extract (i + 1) F.size = bent at *
  have hBs : bent.size = F.size := by
    rw [← size_data, hB]
    unfold flipB
    rw [xorB_len _ _ (by simp only [List.length_append, List.length_cons, List.length_replicate]; omega), size_data]
  have hBb : bent.data.toList.all isBitB = true := by rw [hB]; exact of_bitU (xorB_bitU _ _)
  have hH := HasCheck_impl h1 (by omega) bent (by omega) hBb
  rw [hB, remN_flip h1 (p_lt64 (by omega)) _ hU i hiL, h0, Nat.zero_xor, size_data] at hH
  have hC := CountMissed_impl (P : Int) (F.size : Int) 1
  have hcb : cntB (P : Int) (F.size : Int) 1 = true := by
    unfold cntB
    rw [decide_eq_true (show 2 ≤ (P : Int) ∧ (P : Int) ≤ 131071 by omega), decide_eq_true (show 1 ≤ (F.size : Int) ∧ (F.size : Int) ≤ 32 by omega), decide_eq_true (show (1 : Int) ≤ 1 ∧ (1 : Int) ≤ 4 by omega)]; rfl
  rw [if_pos hcb, Int.toNat_natCast, Int.toNat_natCast] at hC
  apply Ev.succ
  simp only [laws_FnChecks.j1]
  refine Ev.cond (fun h' => absurd h' (by decide)) (fun _ => ?_)
  refine Ev.bind (Ev.const hi) ?_
  refine Ev.cond (fun _ => ?_) (fun h' => absurd c1 h')
  refine Ev.cond (fun _ => ?_) (fun h' => absurd c2 h')
  refine Ev.cond (fun _ => ?_) (fun h' => absurd c3 h')
  refine Ev.bind (Ev.now _) ?_
  rw [hw, Int.toNat_natCast, Int.toNat_natCast, hbent]
  refine Ev.cond (fun _ => ?_) (fun h' => absurd c6 h')
  refine Ev.cond (fun _ => ?_) (fun h' => absurd c4 h')
  refine Ev.cond (fun _ => ?_) (fun h' => absurd c5 h')
  refine Ev.cond (fun _ => ?_) (fun h' => absurd c7 h')
  refine Ev.bind hC ?_
  refine Ev.cond (fun _ => ?_) (fun h' => absurd (by trivial) h')
  refine Ev.cond (fun _ => Ev.now _) (fun hz => ?_)
  have hne : iterT P (F.size - 1 - i) 1 ≠ 0 := by
    intro e
    have hmem := iterT_mem P F.size (F.size - 1 - i) 1 (by omega)
    rw [e] at hmem
    exact hz (nways_one hmem)
  rw [show ((((iterT P (F.size - 1 - i) 1 : Nat) : Int)) == 0) = false from beq_eq_false_iff_ne.2 (by omega)] at hH
  exact Ev.bind hH (Ev.now _)
theorem CK_l0 {P : Nat} (h1 : 2 ≤ P) (h2 : P ≤ 127) (m : List Int) (hm : ∀ x ∈ m, (Lit.int .u8 x).wf = true) (a : ByteArray) (ha2 : a.size ≤ 20) (hab : a.data.toList.all isBitB = true) :
    ∀ (d n : Nat) (b : ByteArray), n + d = a.size → b.size = n → b.data.toList.all isBitB = true → Ev (fun k => laws_FnChecks.l0 k m (P : Int) a b (n : Int)) true := by
  intro d
  induction d with
  | zero =>
    intro n b h hbs hbb
    have c1 : ¬ (n : Int) < (a.size : Int) := by omega
    have hd1 := deg_pos h1 (p_lt64 (show P ≤ 131071 by omega))
    have hd2 : deg P ≤ 6 := deg_le (by omega) (p_lt64 (by omega)) (by omega)
    have h3 : P ≤ 131071 := by omega
    have hA := AddCheck_iev h1 h3 a (by omega) hab
    have hx := CheckBits_iev h1 h3 a (by omega) hab
    have hy := CheckBits_iev h1 h3 b (by omega) hbb
    have hX := XorBits_ev a b (by omega) (by omega) hab hbb
    have hxb : (xorS a b).data.toList.all isBitB = true := of_bitU (xorB_bitU _ _)
    have hxs := xorS_size a b (by omega)
    have hz := CheckBits_iev h1 h3 (xorS a b) (by omega) hxb
    have hc1 : (chk P a).data.toList.all isBitB = true := by rw [chk_data]; exact of_bitU (dgB_bitU _ _)
    have hc2 : (chk P b).data.toList.all isBitB = true := by rw [chk_data]; exact of_bitU (dgB_bitU _ _)
    have hS := XorBits_ev (chk P a) (chk P b) (by rw [chk_size, chk_size]) (by rw [chk_size]; omega) hc1 hc2
    have hlen : a.data.toList.length = b.data.toList.length := by rw [size_data, size_data]; omega
    have ez : chk P (xorS a b) = xorS (chk P a) (chk P b) := by
      apply str_same
      rw [chk_data, xorS_data, xorS_data, chk_data, chk_data]
      exact check_xor h1 (p_lt64 h3) _ _ hlen (bitU_of hab) (bitU_of hbb)
    have hFd : (a ++ chk P a).data.toList = a.data.toList ++ dgB (iterT P (deg P) (remN P a.data.toList 0)) (deg P) := by
      rw [ByteArray.data_append, Array.toList_append, chk_data]
    have hFb : (a ++ chk P a).data.toList.all isBitB = true := by
      rw [ByteArray.data_append, Array.toList_append, List.all_append, hab, hc1]; rfl
    have hFs : (a ++ chk P a).size = a.size + deg P := by rw [ByteArray.size_append, chk_size]
    have hF0 : remN P (a ++ chk P a).data.toList 0 = 0 := by rw [hFd]; exact check_zero h1 (p_lt64 h3) _
    have hH := HasCheck_impl h1 h3 (a ++ chk P a) (by omega) hFb
    rw [hF0] at hH
    have hj := CK_j1 h1 h2 m hm (a ++ chk P a) (by omega) (by omega) hFb hF0
    apply Ev.succ
    simp only [laws_FnChecks.l0]
    refine Ev.cond (fun h' => absurd h' c1) (fun _ => ?_)
    refine Ev.bind hA (Ev.bind hx (Ev.bind hy (Ev.bind hX (Ev.bind hz (Ev.bind hS ?_)))))
    refine Ev.cond (fun _ => ?_) (fun h' => absurd (by trivial) h')
    refine Ev.cond (fun _ => ?_) (fun h' => absurd (by trivial) h')
    refine Ev.cond (fun _ => ?_) (fun h' => absurd (by trivial) h')
    refine Ev.cond (fun _ => ?_) (fun h' => absurd (by trivial) h')
    refine Ev.cond (fun _ => ?_) (fun h' => absurd (by trivial) h')
    refine Ev.cond (fun _ => ?_) (fun h' => absurd (by trivial) h')
    refine Ev.cond (fun _ => ?_) (fun h' => absurd (congrArg ByteArray.toList ez) h')
    refine Ev.cond (fun _ => ?_) (fun h' => absurd (show a.size + (chk P a).size ≤ 9223372036854775807 by rw [chk_size]; omega) h')
    refine Ev.cond (fun _ => ?_) (fun h' => absurd rfl h')
    refine Ev.bind hH ?_
    refine Ev.cond (fun _ => ?_) (fun h' => absurd (by decide) h')
    refine Ev.bind (Ev.const (IsCheck_eq _)) ?_
    rw [decide_eq_true (show 2 ≤ (P : Int) ∧ (P : Int) ≤ 131071 by omega)]
    exact hj
  | succ d ih =>
    intro n b h hbs hbb
    have c1 : (n : Int) < (a.size : Int) := by omega
    obtain ⟨t, ht, ht0, ht1⟩ := r8At_eq m hm (n : Int) 2 (by omega) (by omega)
    have hb1 : (strOfNums ([(wrap64 (48 + t)) % 256] : List Int)).data.toList.all isBitB = true := by
      have : t = 0 ∨ t = 1 := by omega
      rcases this with rfl | rfl <;> decide +kernel
    have hs1 : (strOfNums ([(wrap64 (48 + t)) % 256] : List Int)).size = 1 := by rw [str_size]; rfl
    have c2 : b.size + (strOfNums ([(wrap64 (48 + t)) % 256] : List Int)).size ≤ 9223372036854775807 := by omega
    have h3 := ih (n + 1) (b ++ strOfNums ([(wrap64 (48 + t)) % 256] : List Int)) (by omega) (by rw [ByteArray.size_append]; omega) (by rw [ByteArray.data_append, Array.toList_append, List.all_append, hbb, hb1]; rfl)
    apply Ev.succ
    simp only [laws_FnChecks.l0]
    refine Ev.cond (fun _ => ?_) (fun h' => absurd c1 h')
    refine Ev.bind (Ev.const ht) ?_
    refine Ev.bind (Ev.now _) ?_
    refine Ev.cond (fun _ => ?_) (fun h' => absurd c2 h')
    rw [w64_succ (show n < 9223372036854775807 by omega)]
    exact h3
theorem FnChecks : laws_FnChecks.Pure := by
  intro l m hl hl2 hlw hm hm2 hmw
  refine Ev.rounds ?_
  unfold laws_FnChecks.f
  obtain ⟨b, hb, _⟩ := r8Long_eq l m
  refine Ev.bind (Ev.const hb) ?_
  refine Ev.cond (fun _ => Ev.now _) (fun _ => ?_)
  obtain ⟨P, hP, h1, h2⟩ := R8Check_eq l hlw
  obtain ⟨a, ha, ha1, ha2⟩ := R8Bits_ev l hlw 20 (by omega) (by omega)
  refine Ev.bind (Ev.const hP) (Ev.bind ha ?_)
  exact CK_l0 h1 h2 m hmw a ha1 ha2 a.size 0 (⟨#[]⟩ : ByteArray) (by omega) rfl rfl

end Go.Proofs.YthaafdeicgbajaaDoor.Pure
