/- For all bytes the drawn polynomial itself is missed and shorter bursts are not, and two changed bits are missed exactly if their distance is a multiple of the order. -/
import Derived.Test.YtckjcighblnnfaaDoorQFnBurstsx3
import Derived.Test.YtckjcighblnnfaaDoorBase
import Derived.Test.YtckjcighblnnfaaDoorPoly
import Derived.Test.YtckjcighblnnfaaDoorLin
namespace Go.Proofs.YtckjcighblnnfaaDoor.Pure
open Go.RowKit Go.Proofs.YtckjcighblnnfaaDoor.QFnBursts Go.Proofs.YtckjcighblnnfaaDoor.Base Go.Proofs.YtckjcighblnnfaaDoorW.PrintWords Go.Proofs.YtckjcighblnnfaaDoorW.PrintLast Go.Proofs.YtckjcighblnnfaaDoorW.PrintMore
open Go.Proofs.YtckjcighblnnfaaDoor.Poly
open Go.Proofs.YtckjcighblnnfaaDoor.Lin
set_option linter.unusedVariables false
set_option linter.unusedSimpArgs false

/-! linMsg -/
def bitU (c : UInt8) : Prop := c = 48 ∨ c = 49
def bv (c : UInt8) : Nat := if c = 49 then 1 else 0
def xorB : List UInt8 → List UInt8 → List UInt8
  | x :: a, y :: b => (if x = y then 48 else 49) :: xorB a b
  | _, _ => []
theorem xorB_len : ∀ (a b : List UInt8), a.length = b.length → (xorB a b).length = a.length := by
  intro a
  induction a with
  | nil => intro b _; rfl
  | cons x a ih =>
    intro b h
    cases b with
    | nil => exact absurd h (by simp)
    | cons y b => simp only [xorB, List.length_cons]; rw [ih b (by simpa using h)]
theorem bv_xor {x y : UInt8} (hx : bitU x) (hy : bitU y) : bv (if x = y then 48 else 49) = bv x ^^^ bv y := by
  rcases hx with rfl | rfl <;> rcases hy with rfl | rfl <;> decide
theorem remN_cons (p : Nat) (c : UInt8) (l : List UInt8) (r : Nat) : remN p (c :: l) r = remN p l (T p r ^^^ bv c) := rfl
theorem bv_lt {p : Nat} (h1 : 2 ≤ p) (h2 : p < 2 ^ 64) (c : UInt8) : bv c < 2 ^ deg p := by
  have hd := deg_pos h1 h2
  have hp2 : 2 ≤ 2 ^ deg p := by
    have := Nat.pow_le_pow_right (show 0 < 2 by decide) hd
    simpa using this
  unfold bv; split <;> omega
theorem remN_xor {p : Nat} (h1 : 2 ≤ p) (h2 : p < 2 ^ 64) : ∀ (a b : List UInt8), a.length = b.length → (∀ c ∈ a, bitU c) → (∀ c ∈ b, bitU c) → ∀ r s : Nat, r < 2 ^ deg p → s < 2 ^ deg p →
    remN p (xorB a b) (r ^^^ s) = remN p a r ^^^ remN p b s := by
  intro a
  induction a with
  | nil =>
    intro b h _ _ r s _ _
    obtain rfl : b = [] := List.eq_nil_of_length_eq_zero h.symm
    rfl
  | cons x a ih =>
    intro b h ha hb r s hr hs
    cases b with
    | nil => exact absurd h (by simp)
    | cons y b =>
      have e := bv_xor (ha x List.mem_cons_self) (hb y List.mem_cons_self)
      simp only [xorB]
      rw [remN_cons, remN_cons, remN_cons, e, T_xor hr hs, show T p r ^^^ T p s ^^^ (bv x ^^^ bv y) = (T p r ^^^ bv x) ^^^ (T p s ^^^ bv y) by ac_rfl]
      exact ih b (by simpa using h) (fun c hc => ha c (List.mem_cons_of_mem _ hc)) (fun c hc => hb c (List.mem_cons_of_mem _ hc)) _ _ (Nat.xor_lt_two_pow (T_lt h1 h2 hr) (bv_lt h1 h2 x)) (Nat.xor_lt_two_pow (T_lt h1 h2 hs) (bv_lt h1 h2 y))
theorem remN_append (p : Nat) (a b : List UInt8) : ∀ r, remN p (a ++ b) r = remN p b (remN p a r) := by
  induction a with
  | nil => intro r; rfl
  | cons x a ih => intro r; rw [List.cons_append, remN_cons, remN_cons, ih]
theorem remN_zeros (p : Nat) : ∀ (n r : Nat), remN p (List.replicate n 48) r = iterT p n r := by
  intro n
  induction n with
  | zero => intro r; rfl
  | succ n ih => intro r; rw [List.replicate_succ, remN_cons, show bv 48 = 0 by decide, Nat.xor_zero, ih]; rfl
theorem T_small {p r : Nat} (h : 2 * r < 2 ^ deg p) : T p r = 2 * r := by
  unfold T
  rw [Nat.div_eq_of_lt h, if_neg (by decide)]
theorem mod_split (x n : Nat) : x % 2 ^ (n + 1) = x / 2 ^ n % 2 * 2 ^ n + x % 2 ^ n := by
  rw [Nat.pow_succ, Nat.mod_mul, Nat.mul_comm (2 ^ n), Nat.add_comm]
/-- Reading few digits is their number. -/
theorem remN_dg {p : Nat} (x : Nat) : ∀ (n m r : Nat), n + m = deg p → r < 2 ^ m → remN p (dgB x n) r = r * 2 ^ n + x % 2 ^ n := by
  intro n
  induction n with
  | zero => intro m r _ _; simp [dgB, remN, Nat.mod_one]
  | succ n ih =>
    intro m r h hr
    have hp : 2 ^ (m + 1) = 2 * 2 ^ m := by rw [Nat.pow_succ, Nat.mul_comm]
    have h2 : 2 * r < 2 ^ deg p := by
      have : 2 ^ (m + 1) ≤ 2 ^ deg p := Nat.pow_le_pow_right (by decide) (by omega)
      omega
    have eb : bv (if x / 2 ^ n % 2 = 1 then 49 else 48) = x / 2 ^ n % 2 := by
      have : x / 2 ^ n % 2 < 2 := Nat.mod_lt _ (by decide)
      by_cases hc : x / 2 ^ n % 2 = 1
      · rw [if_pos hc, hc]; decide
      · rw [if_neg hc]; rw [show x / 2 ^ n % 2 = 0 by omega]; decide
    have hb : x / 2 ^ n % 2 < 2 := Nat.mod_lt _ (by decide)
    rw [dgB, remN_cons, eb, T_small h2, dbl_xor hb, ih (m + 1) _ (by omega) (by omega), mod_split, Nat.add_mul, Nat.pow_succ, Nat.mul_comm 2 r, Nat.mul_assoc, Nat.mul_comm 2 (2 ^ n)]
    omega
theorem xorB_zeros (a : List UInt8) (h : ∀ c ∈ a, bitU c) : xorB (List.replicate a.length 48) a = a := by
  induction a with
  | nil => rfl
  | cons x a ih =>
    rw [List.length_cons, List.replicate_succ]
    simp only [xorB]
    rw [ih (fun c hc => h c (List.mem_cons_of_mem _ hc))]
    rcases h x List.mem_cons_self with rfl | rfl <;> rfl
theorem dgB_bitU (x n : Nat) : ∀ c ∈ dgB x n, bitU c := by
  induction n with
  | zero => intro c hc; exact absurd hc (by simp [dgB])
  | succ n ih =>
    intro c hc
    rw [dgB] at hc
    rcases List.mem_cons.1 hc with rfl | hc
    · by_cases h : x / 2 ^ n % 2 = 1
      · rw [if_pos h]; exact .inr rfl
      · rw [if_neg h]; exact .inl rfl
    · exact ih c hc
/-- Bits with their check leave nothing. -/
theorem check_zero {p : Nat} (h1 : 2 ≤ p) (h2 : p < 2 ^ 64) (a : List UInt8) : remN p (a ++ dgB (iterT p (deg p) (remN p a 0)) (deg p)) 0 = 0 := by
  have hr := remN_lt h1 h2 a 0 (Nat.two_pow_pos _)
  have hc := iterT_lt' h1 h2 (deg p) _ hr
  rw [remN_append]
  generalize remN p a 0 = r at *
  generalize hC : iterT p (deg p) r = c at *
  have hb := dgB_bitU c (deg p)
  have e := xorB_zeros (dgB c (deg p)) hb
  rw [dgB_length] at e
  have hz : ∀ x ∈ List.replicate (deg p) (48 : UInt8), bitU x := fun x hx => .inl (List.eq_of_mem_replicate hx)
  have h := remN_xor h1 h2 (List.replicate (deg p) 48) (dgB c (deg p)) (by rw [List.length_replicate, dgB_length]) hz hb r 0 hr (Nat.two_pow_pos _)
  rw [e, Nat.xor_zero, remN_zeros, hC, remN_dg c (deg p) 0 0 (by omega) (by simp), Nat.zero_mul, Nat.zero_add, Nat.mod_eq_of_lt hc, Nat.xor_self] at h
  exact h
/-- One bit in front of so many zeros. -/
theorem remN_unit {p : Nat} (n m : Nat) : remN p (List.replicate n 48 ++ 49 :: List.replicate m 48) 0 = iterT p m 1 := by
  rw [remN_append, remN_zeros, iterT_zero, remN_cons, remN_zeros, T_zero]; rfl
/-- The bit of an index turned. -/
def flipB (l : List UInt8) (i : Nat) : List UInt8 := xorB l (List.replicate i 48 ++ 49 :: List.replicate (l.length - 1 - i) 48)
theorem remN_flip {p : Nat} (h1 : 2 ≤ p) (h2 : p < 2 ^ 64) (l : List UInt8) (hl : ∀ c ∈ l, bitU c) (i : Nat) (hi : i < l.length) : remN p (flipB l i) 0 = remN p l 0 ^^^ iterT p (l.length - 1 - i) 1 := by
  have hz : ∀ c ∈ List.replicate i (48 : UInt8) ++ 49 :: List.replicate (l.length - 1 - i) 48, bitU c := by
    intro c hc
    rcases List.mem_append.1 hc with hc | hc
    · exact .inl (List.eq_of_mem_replicate hc)
    · rcases List.mem_cons.1 hc with rfl | hc
      · exact .inr rfl
      · exact .inl (List.eq_of_mem_replicate hc)
  have h := remN_xor h1 h2 l _ (by simp only [List.length_append, List.length_cons, List.length_replicate]; omega) hl hz 0 0 (Nat.two_pow_pos _) (Nat.two_pow_pos _)
  rw [Nat.xor_zero, remN_unit] at h
  exact h
theorem dgB_xor (x y : Nat) : ∀ n, dgB (x ^^^ y) n = xorB (dgB x n) (dgB y n) := by
  intro n
  induction n with
  | zero => rfl
  | succ n ih =>
    simp only [dgB, xorB, ih]
    congr 1
    have e : (x ^^^ y) / 2 ^ n % 2 = (x / 2 ^ n % 2) ^^^ (y / 2 ^ n % 2) := by
      rw [← Nat.shiftRight_eq_div_pow, ← Nat.shiftRight_eq_div_pow, ← Nat.shiftRight_eq_div_pow, Nat.shiftRight_xor_distrib]
      have h := Nat.xor_mod_two_pow (a := x >>> n) (b := y >>> n) (n := 1)
      rw [Nat.pow_one] at h
      exact h
    rw [e]
    have hx : x / 2 ^ n % 2 = 0 ∨ x / 2 ^ n % 2 = 1 := by omega
    have hy : y / 2 ^ n % 2 = 0 ∨ y / 2 ^ n % 2 = 1 := by omega
    rcases hx with hx | hx <;> rcases hy with hy | hy <;> rw [hx, hy] <;> decide
theorem check_xor {p : Nat} (h1 : 2 ≤ p) (h2 : p < 2 ^ 64) (a b : List UInt8) (hl : a.length = b.length) (ha : ∀ c ∈ a, bitU c) (hb : ∀ c ∈ b, bitU c) :
    dgB (iterT p (deg p) (remN p (xorB a b) 0)) (deg p) = xorB (dgB (iterT p (deg p) (remN p a 0)) (deg p)) (dgB (iterT p (deg p) (remN p b 0)) (deg p)) := by
  have h := remN_xor h1 h2 a b hl ha hb 0 0 (Nat.two_pow_pos _) (Nat.two_pow_pos _)
  rw [Nat.xor_zero] at h
  rw [h, iterT_xor h1 h2 _ _ _ (remN_lt h1 h2 _ _ (Nat.two_pow_pos _)) (remN_lt h1 h2 _ _ (Nat.two_pow_pos _)), dgB_xor]
theorem iterT_mem (p : Nat) : ∀ (n k r : Nat), k < n → iterT p k r ∈ pows p n r := by
  intro n
  induction n with
  | zero => intro k r h; exact absurd h (by omega)
  | succ n ih =>
    intro k r h
    cases k with
    | zero => exact List.mem_cons_self
    | succ k => exact List.mem_cons_of_mem _ (ih k (T p r) (by omega))
theorem nways_one {l : List Nat} (h : 0 ∈ l) : 0 < nways l 1 0 := by
  induction l with
  | nil => exact absurd h (by simp)
  | cons x l ih =>
    have e : nways (x :: l) 1 0 = nways l 0 (0 ^^^ x) + nways l 1 0 := rfl
    have b0 := (nways_bound l 0 (0 ^^^ x)).1
    have b1 := (nways_bound l 1 0).1
    rw [e]
    rcases List.mem_cons.1 h with hx | hx
    · rw [← hx, Nat.xor_zero, nways_zero, if_pos rfl]; omega
    · have := ih hx; omega

/-! within -/
theorem within_eq (a b c : Int) : impl_within.f a b c = some (decide (b ≤ a ∧ a ≤ c)) := by
  unfold impl_within.f
  by_cases h : b ≤ a
  · simp [h, ge_iff_le]
  · simp [h, ge_iff_le]

/-! l00In -/

/-! degree -/
theorem IsCheck_eq (p : Int) : impl_IsCheck.f p = some (decide (2 ≤ p ∧ p ≤ 131071)) := by
  unfold impl_IsCheck.f
  rw [within_eq]; rfl
theorem p_lt64 {p : Nat} (h : p ≤ 131071) : p < 2 ^ 64 := Nat.lt_of_le_of_lt h (by decide)
theorem deg16 {p : Nat} (h1 : 2 ≤ p) (h2 : p ≤ 131071) : deg p ≤ 16 := deg_le (by omega) (p_lt64 h2) (Nat.lt_of_le_of_lt h2 (by decide))
theorem pow16 {p : Nat} (h1 : 2 ≤ p) (h2 : p ≤ 131071) : 2 ^ deg p ≤ 65536 := by
  have := Nat.pow_le_pow_right (show 0 < 2 by decide) (deg16 h1 h2)
  simpa using this
theorem degree_eq {p : Nat} (h1 : 2 ≤ p) (h2 : p ≤ 131071) : impl_degree.f (p : Int) = some (deg p : Int) := by
  unfold impl_degree.f bits_Len64.f
  rw [u64_nat (show p < 2 ^ 63 by exact Nat.lt_of_le_of_lt h2 (by decide)), if_pos ⟨by omega, by omega⟩, Option.bind_some, Int.toNat_natCast, bitLen_deg (by omega) (p_lt64 h2)]
  have := deg16 h1 h2
  rw [w64 (by omega) (by omega)]
  congr 1; omega
theorem times_eq {p r : Nat} (h1 : 2 ≤ p) (h2 : p ≤ 131071) (hr : r < 2 ^ deg p) : impl_times.f (p : Int) (r : Int) = some (T p r : Int) := by
  unfold impl_times.f
  have h16 := deg16 h1 h2
  have hp := pow16 h1 h2
  rw [degree_eq h1 h2, Option.bind_some, if_pos (by omega)]
  have e1 : wrap64 ((r : Int) * 2) = ((2 * r : Nat) : Int) := by rw [w64 (by omega) (by omega)]; omega
  rw [e1, shr_nat _ _ (by omega), bits_xor (by omega) (by omega)]
  unfold T
  by_cases h : 2 * r / 2 ^ deg p = 1
  · have h' : ((2 * r / 2 ^ deg p : Nat) : Int) = 1 := by rw [h]; rfl
    rw [if_pos h', if_pos h]
  · have h' : ¬ ((2 * r / 2 ^ deg p : Nat) : Int) = 1 := by omega
    rw [if_neg h', if_neg h]

/-! CheckOrder -/
/-- Times x is one to one where the bit 0 of the polynomial is 1. -/
theorem T_inj {p r s : Nat} (h1 : 2 ≤ p) (h2 : p < 2 ^ 64) (hodd : p % 2 = 1) (hr : r < 2 ^ deg p) (hs : s < 2 ^ deg p) (h : T p r = T p s) : r = s := by
  have par : ∀ x : Nat, ((2 * x) ^^^ p) % 2 = 1 := by
    intro x
    have e := Nat.testBit_xor (2 * x) p 0
    have e1 : (2 * x).testBit 0 = false := by simp [Nat.testBit_zero]
    have e2 : p.testBit 0 = true := by rw [Nat.testBit_zero]; simp [hodd]
    rw [e1, e2, Nat.testBit_zero] at e
    simpa using e
  unfold T at h
  rcases dbl_div hr with ⟨a1, a2⟩ | ⟨a1, a2, a3⟩ <;> rcases dbl_div hs with ⟨b1, b2⟩ | ⟨b1, b2, b3⟩
  · rw [if_neg (by omega), if_neg (by omega)] at h; omega
  · rw [if_neg (by omega), if_pos b1] at h
    have := par s; omega
  · rw [if_pos a1, if_neg (by omega)] at h
    have := par r; omega
  · rw [if_pos a1, if_pos b1] at h
    have h' : ((2 * r) ^^^ p) ^^^ p = ((2 * s) ^^^ p) ^^^ p := by rw [h]
    rw [Nat.xor_assoc, Nat.xor_assoc, Nat.xor_self, Nat.xor_zero, Nat.xor_zero] at h'
    omega
/-- Of more numbers than there is room for two are equal. -/
theorem pigeon : ∀ (N : Nat) (f : Nat → Nat), (∀ i, i ≤ N → f i < N) → ∃ i j, i < j ∧ j ≤ N ∧ f i = f j := by
  intro N
  induction N with
  | zero => intro f h; exact absurd (h 0 (Nat.le_refl _)) (by omega)
  | succ N ih =>
    intro f h
    by_cases he : ∃ i, i < N + 1 ∧ f i = f (N + 1)
    · obtain ⟨i, hi, hf⟩ := he
      exact ⟨i, N + 1, hi, Nat.le_refl _, hf⟩
    · have hne : ∀ i, i < N + 1 → f i ≠ f (N + 1) := fun i hi hf => he ⟨i, hi, hf⟩
      have hlast := h (N + 1) (Nat.le_refl _)
      obtain ⟨i, j, h1, h2, h3⟩ := ih (fun i => if f i = N then f (N + 1) else f i) (fun i hi => by
        show (if f i = N then f (N + 1) else f i) < N
        have h4 := h i (by omega)
        have h5 := hne i (by omega)
        split <;> omega)
      refine ⟨i, j, h1, by omega, ?_⟩
      have h3' : (if f i = N then f (N + 1) else f i) = (if f j = N then f (N + 1) else f j) := h3
      have h5 := hne i (by omega)
      have h6 := hne j (by omega)
      split at h3' <;> split at h3' <;> omega
theorem iterT_add (p : Nat) : ∀ (m n r : Nat), iterT p (m + n) r = iterT p n (iterT p m r) := by
  intro m
  induction m with
  | zero => intro n r; rw [Nat.zero_add]; rfl
  | succ m ih => intro n r; rw [Nat.succ_add, iterT, ih]; rfl
theorem iterT_lt' {p : Nat} (h1 : 2 ≤ p) (h2 : p < 2 ^ 64) : ∀ (n r : Nat), r < 2 ^ deg p → iterT p n r < 2 ^ deg p := by
  intro n
  induction n with
  | zero => intro r hr; exact hr
  | succ n ih => intro r hr; exact ih _ (T_lt h1 h2 hr)
theorem iterT_inj {p : Nat} (h1 : 2 ≤ p) (h2 : p < 2 ^ 64) (hodd : p % 2 = 1) : ∀ (n r s : Nat), r < 2 ^ deg p → s < 2 ^ deg p → iterT p n r = iterT p n s → r = s := by
  intro n
  induction n with
  | zero => intro r s _ _ h; exact h
  | succ n ih => intro r s hr hs h; exact T_inj h1 h2 hodd hr hs (ih _ _ (T_lt h1 h2 hr) (T_lt h1 h2 hs) h)
theorem order_ex {p : Nat} (h1 : 2 ≤ p) (h2 : p ≤ 131071) (hodd : p % 2 = 1) : ∃ n, 1 ≤ n ∧ n ≤ 65536 ∧ iterT p n 1 = 1 := by
  have h64 := p_lt64 h2
  have hp := pow16 h1 h2
  have hd := deg_pos h1 h64
  have h1lt : 1 < 2 ^ deg p := by
    have := Nat.pow_le_pow_right (show 0 < 2 by decide) hd
    simp at this; omega
  obtain ⟨i, j, hij, hj, he⟩ := pigeon (2 ^ deg p) (fun i => iterT p i 1) (fun i _ => iterT_lt' h1 h64 i 1 h1lt)
  have he' : iterT p i 1 = iterT p j 1 := he
  refine ⟨j - i, by omega, by omega, ?_⟩
  have e : j = (j - i) + i := by omega
  rw [e, iterT_add] at he'
  exact (iterT_inj h1 h64 hodd i 1 _ h1lt (iterT_lt' h1 h64 _ _ h1lt) he').symm

/-! remainderI -/
theorem remainder_implL {p : Nat} (h1 : 2 ≤ p) (h2 : p ≤ 131071) (s : ByteArray) (hn : s.size ≤ 1099511627776) (hb : s.data.toList.all isBitB = true) : ∀ (d n r : Nat), n + d = s.size → r < 2 ^ deg p →
    Ev (fun k => impl_remainder.l0 k (p : Int) s (r : Int) (s.size : Int) (n : Int)) ((remN p (s.data.toList.drop n) r : Nat) : Int) := by
  intro d
  induction d with
  | zero =>
    intro n r h hr
    have c1 : ¬ ((n : Int) < (s.size : Int)) := by omega
    have c2 : s.data.toList.drop n = [] := List.drop_eq_nil_of_le (by rw [size_data]; omega)
    rw [c2]
    apply Ev.succ
    simp only [impl_remainder.l0, c1, if_false, remN]; exact Ev.now _
  | succ d ih =>
    intro n r h hr
    have hl : n < s.size := by omega
    have c1 : (n : Int) < (s.size : Int) := by omega
    have c2 : (0 : Int) ≤ (n : Int) := by omega
    have hT := T_lt h1 (p_lt64 h2) hr
    have hp := pow16 h1 h2
    have hd := deg_pos h1 (p_lt64 h2)
    have hp2 : 2 ≤ 2 ^ deg p := by
      have := Nat.pow_le_pow_right (show 0 < 2 by decide) hd
      simpa using this
    have hw := w64_succ (show n < 9223372036854775807 by omega)
    have hbt := bt_nat s n hl
    have hbit : isBitB (s[n]) = true := by
      rw [List.all_eq_true] at hb
      exact hb _ (by rw [← data_get hl]; exact List.getElem_mem _)
    rw [drop_data hl, remN]
    by_cases c : s[n] = 49
    · have c3 : bt s (n : Int) = 49 := by rw [hbt, c]; rfl
      have hx : T p r ^^^ 1 < 2 ^ deg p := Nat.xor_lt_two_pow hT (by omega)
      have h3 := ih (n + 1) (T p r ^^^ 1) (by omega) hx
      rw [if_pos c]
      apply Ev.succ
      have e : Go.bits .xor .i64 (T p r : Int) 1 = ((T p r ^^^ 1 : Nat) : Int) := bits_xor (b := 1) (by omega) (by omega)
      simp only [impl_remainder.l0, c1, c2, if_true, times_eq h1 h2 hr, Option.bind_some, c3, e, hw]; exact h3
    · have c48 : bt s (n : Int) = 48 := by
        rcases (isBit_iff _).1 hbit with h | h
        · rw [hbt]; exact h
        · exact absurd (UInt8.toNat_inj.1 (by show (s[n]).toNat = 49; omega)) c
      have h3 := ih (n + 1) (T p r ^^^ 0) (by omega) (by rw [Nat.xor_zero]; exact hT)
      rw [if_neg c]
      apply Ev.succ
      rw [Nat.xor_zero] at h3 ⊢
      simp only [impl_remainder.l0, c1, c2, if_true, times_eq h1 h2 hr, Option.bind_some, c48, Int.reduceEq, if_false, hw]; exact h3
theorem remainder_impl {p : Nat} (h1 : 2 ≤ p) (h2 : p ≤ 131071) (s : ByteArray) (hn : s.size ≤ 1099511627776) (hb : s.data.toList.all isBitB = true) :
    Ev (fun k => impl_remainder.f k (p : Int) s) ((remN p s.data.toList 0 : Nat) : Int) :=
  remainder_implL h1 h2 s hn hb s.size 0 0 (by omega) (Nat.two_pow_pos _)

/-! IsBits -/
theorem trim_bits (s : ByteArray) (h : s.size ≤ 9223372036854775807) : strings_Trim.f s (⟨#[48, 49]⟩ : ByteArray) = some ⟨(Lib.trimS s.data.toList [48, 49]).toArray⟩ := by
  unfold strings_Trim.f
  rw [if_pos ⟨h, by decide, by decide⟩]
theorem areBits_eq (s : ByteArray) (h : s.size ≤ 9223372036854775807) : impl_areBits.f s = some (s.data.toList.all isBitB) := by
  unfold impl_areBits.f
  rw [trim_bits s h, Option.bind_some]
  congr 1
  have e1 : (⟨(Lib.trimS s.data.toList [48, 49]).toArray⟩ : ByteArray).toList = Lib.trimS s.data.toList [48, 49] := by rw [Lib.toList_data]
  rw [e1, Bool.eq_iff_iff, beq_iff_eq, trimS_nil]
  have e2 : (fun b => ([48, 49] : List UInt8).contains b) = isBitB := funext contains_bits
  rw [e2]
theorem IsBits_eq (s : ByteArray) (h : s.size ≤ 9223372036854775807) : impl_IsBits.f s = some (bitsB s) := by
  unfold impl_IsBits.f bitsB
  by_cases h4 : s.size ≤ 400
  · have h4' : (s.size : Int) ≤ 400 := by omega
    simp only [h4', if_true, areBits_eq s h, Option.bind_some, h4, decide_true, Bool.and_true]
  · have h4' : ¬ (s.size : Int) ≤ 400 := by omega
    simp only [h4', if_false, h4, decide_false, Bool.and_false]

/-! HasCheckI -/
theorem HasCheck_impl {p : Nat} (h1 : 2 ≤ p) (h2 : p ≤ 131071) (s : ByteArray) (hn : s.size ≤ 400) (hb : s.data.toList.all isBitB = true) :
    Ev (fun k => impl_HasCheck.f k (p : Int) s) (((remN p s.data.toList 0 : Nat) : Int) == 0) := by
  have hbb : bitsB s = true := by unfold bitsB; rw [hb, decide_eq_true hn]; rfl
  have c1 := remainder_impl h1 h2 s (by omega) hb
  unfold impl_HasCheck.f
  refine Ev.bind (Ev.const (IsCheck_eq _)) ?_
  refine Ev.cond (fun _ => ?_) (fun h' => absurd (decide_eq_true ⟨by omega, by omega⟩) h')
  refine Ev.bind (Ev.const (IsBits_eq s (by omega))) ?_
  refine Ev.cond (fun _ => ?_) (fun h' => absurd hbb h')
  exact Ev.bind c1 (Ev.now _)

/-! bitAt -/
theorem bit_at (x i : Nat) (hx : x < 2 ^ 62) (hi : i ≤ 63) : Go.bits .and .i64 (shr .i64 (x : Int) (i : Int)) 1 = ((x / 2 ^ i % 2 : Nat) : Int) := by
  rw [shr_nat _ _ hi]
  have e := bits_and (a := x / 2 ^ i) (b := 1) (Nat.lt_of_le_of_lt (Nat.div_le_self _ _) hx) (by decide)
  rw [Nat.and_one_is_mod] at e
  exact e
theorem shl_one {n : Nat} (h : n ≤ 61) : shl .i64 1 (n : Int) = ((2 ^ n : Nat) : Int) := by
  unfold shl
  have e : min (n : Int).toNat IntKind.i64.bits = n := by
    have : IntKind.i64.bits = 64 := rfl
    rw [this, Int.toNat_natCast]; omega
  have hlt : 2 ^ n < 2 ^ 62 := Nat.pow_lt_pow_right (by decide) (by omega)
  rw [e, Int.one_mul, IntKind.wrap_i64]
  have e2 : (2 : Int) ^ n = ((2 ^ n : Nat) : Int) := by push_cast; rfl
  rw [e2]
  generalize 2 ^ n = q at hlt ⊢
  omega

/-! r8 -/
theorem wf_u8 {x : Int} (h : (Lit.int .u8 x).wf = true) : 0 ≤ x ∧ x ≤ 255 := by
  have h1 : decide (IntKind.min .u8 ≤ x) = true ∧ decide (x ≤ IntKind.max .u8) = true := by
    simpa [Lit.wf] using h
  obtain ⟨ha, hb⟩ := h1
  have ha := of_decide_eq_true ha
  have hb := of_decide_eq_true hb
  have e1 : IntKind.min .u8 = 0 := by decide
  have e2 : IntKind.max .u8 = 255 := by decide
  rw [e1] at ha
  rw [e2] at hb
  exact ⟨ha, hb⟩
theorem r8At_eq (l : List Int) (h : ∀ x ∈ l, (Lit.int .u8 x).wf = true) (a n : Int) (ha : 0 ≤ a) (hn : 1 ≤ n) : ∃ t, laws_r8At.f l a n = some t ∧ 0 ≤ t ∧ t < n := by
  unfold laws_r8At.f
  by_cases h1 : n ≤ 1
  · exact ⟨0, by rw [if_pos h1], by omega, by omega⟩
  by_cases h2 : a ≥ (l.length : Int)
  · exact ⟨0, by rw [if_neg h1, if_pos h2], by omega, by omega⟩
  obtain ⟨m, rfl⟩ := Int.eq_ofNat_of_zero_le ha
  have hm : m < l.length := by omega
  have hx := wf_u8 (h _ (rd_mem hm))
  have h0 : 0 ≤ Int.tmod (rd l (m : Int)) n := Int.tmod_nonneg _ hx.1
  have h3 : Int.tmod (rd l (m : Int)) n < n := Int.tmod_lt_of_pos _ (by omega)
  refine ⟨Int.tmod (rd l (m : Int)) n, ?_, h0, h3⟩
  rw [if_neg h1, if_neg h2, if_pos (by omega), if_pos (by omega), if_neg (by omega), w64 (by omega) (by omega)]
theorem r8Long_eq (l m : List Int) : ∃ b, laws_r8Long.f l m = some b ∧ (b = false → l.length ≤ 48 ∧ m.length ≤ 48) := by
  unfold laws_r8Long.f
  by_cases h : (l.length : Int) > 48
  · exact ⟨true, by rw [if_pos h], by simp⟩
  · refine ⟨decide ((m.length : Int) > 48), by rw [if_neg h], fun h2 => ?_⟩
    have h3 := of_decide_eq_false h2
    omega

/-! src -/
theorem u64_mod (z : Int) : IntKind.u64.wrap z = z % 18446744073709551616 := by simp [IntKind.wrap, IntKind.bits, IntKind.signed]
theorem u64_and255 (z : Int) : 0 ≤ wrap64 (Go.bits .and .u64 ((IntKind.u64.wrap z) / 1099511627776) 255) ∧ wrap64 (Go.bits .and .u64 ((IntKind.u64.wrap z) / 1099511627776) 255) ≤ 255 := by
  obtain ⟨Y, hY⟩ := Int.eq_ofNat_of_zero_le (show 0 ≤ (IntKind.u64.wrap z) / 1099511627776 by rw [u64_mod]; omega)
  have hlt : Y < 18446744073709551616 := by rw [u64_mod] at hY; omega
  rw [hY]
  have h2 : Go.bits .and .u64 (Y : Int) 255 = ((Y &&& 255 : Nat) : Int) := bits_and_u64_nat Y 255 hlt (by decide)
  rw [h2]
  have h3 : Y &&& 255 ≤ 255 := Nat.and_le_right
  rw [w64 (by omega) (by omega)]
  omega
theorem src_next (l : List Int) (h : ∀ x ∈ l, (Lit.int .u8 x).wf = true) (p : Nat) (hs : Int) (hp : p < 1099511627776) : ∃ v hs', spec_l00Src_next.f l (p : Int) hs = some (v, ((p + 1 : Nat) : Int), hs') ∧ 0 ≤ v ∧ v ≤ 255 := by
  have hw : wrap64 ((p : Int) + 1) = ((p + 1 : Nat) : Int) := w64_succ (by omega)
  unfold spec_l00Src_next.f
  by_cases h1 : p < l.length
  · have hx := wf_u8 (h _ (rd_mem h1))
    rw [if_pos (show (p : Int) < (l.length : Int) by omega), if_pos (show (0 : Int) ≤ (p : Int) by omega), hw, if_pos (show ((p + 1 : Nat) : Int) ≤ (l.length : Int) by omega)]
    refine ⟨_, _, rfl, ?_⟩
    rw [w64 (by omega) (by omega)]
    exact hx
  · rw [if_neg (show ¬ (p : Int) < (l.length : Int) by omega), hw, if_neg (show ¬ ((p + 1 : Nat) : Int) ≤ (l.length : Int) by omega)]
    exact ⟨_, _, rfl, u64_and255 _⟩
theorem src_pick (l : List Int) (h : ∀ x ∈ l, (Lit.int .u8 x).wf = true) (p : Nat) (hs a : Int) (hp : p < 1099511627776) (ha : 2 ≤ a) (ha2 : a ≤ 200) : ∃ v hs', spec_l00Src_pick.f l (p : Int) hs a = some (v, ((p + 1 : Nat) : Int), hs') ∧ 0 ≤ v ∧ v < a := by
  obtain ⟨v, hs', h1, h2, h3⟩ := src_next l h p hs hp
  unfold spec_l00Src_pick.f
  rw [if_neg (by omega), h1, Option.bind_some, if_neg (by omega), if_neg (by omega)]
  exact ⟨_, _, rfl, Int.tmod_nonneg _ h2, Int.tmod_lt_of_pos _ (by omega)⟩

/-! strs -/
theorem str_size (l : List Int) : (strOfNums l).size = l.length := by
  show (strOfNums l).data.size = _
  simp [strOfNums]
theorem bt_str {xs : List Int} {k : Nat} (hk : k < xs.length) (h : 0 ≤ xs[k] ∧ xs[k] ≤ 255) : bt (strOfNums xs) (k : Int) = xs[k] := by
  have hk' : k < (strOfNums xs).size := by rw [str_size]; exact hk
  rw [bt_nat _ _ hk']
  have e : (strOfNums xs)[k]'hk' = UInt8.ofNat (xs[k]).toNat := by
    show (strOfNums xs).data[k]'_ = _
    simp [strOfNums]
  rw [e, UInt8.toNat_ofNat']
  omega
theorem all_bits_iff (s : ByteArray) : s.data.toList.all isBitB = true ↔ ∀ k : Nat, k < s.size → (bt s (k : Int) = 48 ∨ bt s (k : Int) = 49) := by
  rw [List.all_eq_true]
  constructor
  · intro h k hk
    rw [bt_nat s k hk]
    refine (isBit_iff _).1 (h _ ?_)
    rw [← data_get hk]; exact List.getElem_mem _
  · intro h b hb
    obtain ⟨k, hk, rfl⟩ := List.mem_iff_getElem.1 hb
    have hk' : k < s.size := by rw [← size_data]; exact hk
    rw [isBit_iff, data_get hk', ← bt_nat s k hk']
    exact h k hk'
theorem str_ext {s t : ByteArray} (h : s.size = t.size) (h2 : ∀ k : Nat, k < s.size → bt s (k : Int) = bt t (k : Int)) : s = t := by
  apply ByteArray.ext
  apply Array.ext
  · exact h
  · intro k h3 h4
    have e := h2 k h3
    rw [bt_nat s k h3, bt_nat t k h4] at e
    exact UInt8.toNat_inj.1 (by exact_mod_cast e)

/-! R8Bits -/
theorem str_bits {ys : List Int} (h : ∀ x ∈ ys, x = 48 ∨ x = 49) : (strOfNums ys).data.toList.all isBitB = true := by
  rw [List.all_eq_true]
  intro b hb
  have e : (strOfNums ys).data.toList = ys.map fun n => UInt8.ofNat n.toNat := by simp [strOfNums]
  rw [e, List.mem_map] at hb
  obtain ⟨x, hx, rfl⟩ := hb
  rcases h x hx with rfl | rfl <;> decide

/-! R8Check -/
theorem R8Check_eq (l : List Int) (h : ∀ x ∈ l, (Lit.int .u8 x).wf = true) : ∃ p : Nat, spec_R8Check.f l = some (p : Int) ∧ 2 ≤ p ∧ p ≤ 127 := by
  obtain ⟨v, hs', h1, h2, h3⟩ := src_pick l h 0 0 126 (by omega) (by omega) (by omega)
  obtain ⟨v, rfl⟩ := Int.eq_ofNat_of_zero_le h2
  unfold spec_R8Check.f spec_l00From.f
  rw [Option.bind_some]
  show ∃ p : Nat, (spec_l00Src_pick.f l ((0 : Nat) : Int) 0 126).bind _ = some (p : Int) ∧ _
  rw [h1, Option.bind_some]
  refine ⟨v + 2, ?_, by omega, by omega⟩
  rw [w64 (by omega) (by omega)]
  congr 1
  omega

def stepQ (p q r : Nat) : Nat := if 2 * r / q = 1 then (2 * r) ^^^ p else 2 * r
def neverZ (p q : Nat) : Nat → Nat → Bool
  | 0, r => r != 0
  | n + 1, r => r != 0 && neverZ p q n (stepQ p q r)
theorem neverZ_ne (p : Nat) : ∀ (n r : Nat), neverZ p (2 ^ deg p) n r = true → ∀ m, m ≤ n → iterT p m r ≠ 0 := by
  intro n
  induction n with
  | zero =>
    intro r h m hm
    obtain rfl : m = 0 := by omega
    simpa [neverZ, iterT] using h
  | succ n ih =>
    intro r h m hm
    simp only [neverZ, Bool.and_eq_true] at h
    cases m with
    | zero => simpa [iterT] using h.1
    | succ m => exact ih (T p r) h.2 m (by omega)
def burstOk (p : Nat) : Bool := (List.range (2 ^ (deg p - Lib.ctzFrom 64 p))).all fun x => x == 0 || neverZ p (2 ^ deg p) 9 x
theorem bursts_all : (List.range 126).all (fun i => burstOk (i + 2)) = true := by decide +kernel
theorem burst_ne {p : Nat} (h1 : 2 ≤ p) (h2 : p ≤ 127) {x m : Nat} (hx0 : x ≠ 0) (hx : x < 2 ^ (deg p - Lib.ctzFrom 64 p)) (hm : m ≤ 9) : iterT p m x ≠ 0 := by
  have h := List.all_eq_true.1 bursts_all (p - 2) (List.mem_range.2 (by omega))
  rw [show p - 2 + 2 = p by omega] at h
  have h3 := List.all_eq_true.1 h x (List.mem_range.2 hx)
  rw [Bool.or_eq_true, beq_iff_eq] at h3
  exact neverZ_ne p 9 x (h3.resolve_left hx0) m hm
theorem own_all : (List.range 126).all (fun i => remN (i + 2) (dgB (i + 2) 7) 0 == 0) = true := by decide +kernel
theorem own_zero {p : Nat} (h1 : 2 ≤ p) (h2 : p ≤ 127) : remN p (dgB p 7) 0 = 0 := by
  have h := List.all_eq_true.1 own_all (p - 2) (List.mem_range.2 (by omega))
  rw [show p - 2 + 2 = p by omega] at h
  exact beq_iff_eq.1 h
theorem iterT_next (p m : Nat) : iterT p (m + 1) 1 = T p (iterT p m 1) := by rw [iterT_add]; rfl
theorem CO_loop {p : Nat} (h1 : 2 ≤ p) (h2 : p ≤ 131071) (hone : 1 < 2 ^ deg p) : ∀ (d m n : Nat), 1 ≤ m → m + d = n → n ≤ 65536 → iterT p n 1 = 1 → (∀ j, 1 ≤ j → j < m → iterT p j 1 ≠ 1) →
    ∃ e : Nat, 1 ≤ e ∧ iterT p e 1 = 1 ∧ (∀ j, 1 ≤ j → j < e → iterT p j 1 ≠ 1) ∧ Ev (fun k => impl_CheckOrder.l0 k (p : Int) ((iterT p m 1 : Nat) : Int) (m : Int)) ((e : Int), true) := by
  intro d
  induction d with
  | zero =>
    intro m n hm h hn hit hj
    obtain rfl : m = n := by omega
    refine ⟨m, hm, hit, hj, ?_⟩
    rw [hit]
    apply Ev.succ
    simp only [impl_CheckOrder.l0]
    exact Ev.cond (fun _ => Ev.now _) (fun h' => absurd rfl h')
  | succ d ih =>
    intro m n hm h hn hit hj
    by_cases he : iterT p m 1 = 1
    · refine ⟨m, hm, he, hj, ?_⟩
      rw [he]
      apply Ev.succ
      simp only [impl_CheckOrder.l0]
      exact Ev.cond (fun _ => Ev.now _) (fun h' => absurd rfl h')
    · obtain ⟨e, g1, g2, g3, g4⟩ := ih (m + 1) n (by omega) (by omega) hn hit (fun j a b => by
        by_cases hjm : j = m
        · rw [hjm]; exact he
        · exact hj j a (by omega))
      refine ⟨e, g1, g2, g3, ?_⟩
      have hlt := iterT_lt' h1 (p_lt64 h2) m 1 hone
      rw [iterT_next] at g4
      apply Ev.succ
      simp only [impl_CheckOrder.l0]
      refine Ev.cond (fun h' => absurd h' (by omega)) (fun _ => ?_)
      refine Ev.bind (Ev.const (times_eq h1 h2 hlt)) ?_
      rw [w64_succ (show m < 9223372036854775807 by omega)]
      exact g4
theorem one_small {p : Nat} (h1 : 2 ≤ p) (h2 : p ≤ 131071) : 1 < 2 ^ deg p := by
  have := Nat.pow_le_pow_right (show 0 < 2 by decide) (deg_pos h1 (p_lt64 h2))
  simp at this; omega
theorem CO_impl {p : Nat} (h1 : 2 ≤ p) (h2 : p ≤ 131071) : (p % 2 = 0 ∧ Ev (fun k => impl_CheckOrder.f k (p : Int)) (0, false)) ∨
    (p % 2 = 1 ∧ ∃ e : Nat, 1 ≤ e ∧ iterT p e 1 = 1 ∧ (∀ j, 1 ≤ j → j < e → iterT p j 1 ≠ 1) ∧ Ev (fun k => impl_CheckOrder.f k (p : Int)) ((e : Int), true)) := by
  have hm : Int.tmod (p : Int) 2 = ((p % 2 : Nat) : Int) := by rw [Int.tmod_eq_emod_of_nonneg (by omega)]; rfl
  have hc : decide (2 ≤ (p : Int) ∧ (p : Int) ≤ 131071) = true := decide_eq_true (by omega)
  rcases Nat.mod_two_eq_zero_or_one p with h0 | h0
  · refine .inl ⟨h0, ?_⟩
    unfold impl_CheckOrder.f
    refine Ev.bind (Ev.const (IsCheck_eq _)) ?_
    rw [hc, hm, h0]
    refine Ev.cond (fun _ => ?_) (fun h' => absurd (by trivial) h')
    apply Ev.succ
    simp only [impl_CheckOrder.j0]
    exact Ev.cond (fun _ => Ev.now _) (fun h' => absurd (by decide) h')
  · obtain ⟨n, hn1, hn2, hn⟩ := order_ex h1 h2 h0
    have hone := one_small h1 h2
    obtain ⟨e, g1, g2, g3, g4⟩ := CO_loop h1 h2 hone (n - 1) 1 n (Nat.le_refl _) (by omega) hn2 hn (fun j a b => by omega)
    refine .inr ⟨h0, e, g1, g2, g3, ?_⟩
    have hT : iterT p 1 1 = T p 1 := rfl
    rw [hT] at g4
    unfold impl_CheckOrder.f
    refine Ev.bind (Ev.const (IsCheck_eq _)) ?_
    rw [hc, hm, h0]
    refine Ev.cond (fun _ => ?_) (fun h' => absurd (by trivial) h')
    apply Ev.succ
    simp only [impl_CheckOrder.j0]
    refine Ev.cond (fun h' => absurd h' (by decide)) (fun _ => ?_)
    exact Ev.bind (Ev.const (times_eq (r := 1) h1 h2 hone)) g4
theorem iterT_mul {p e : Nat} (he : iterT p e 1 = 1) : ∀ q, iterT p (e * q) 1 = 1 := by
  intro q
  induction q with
  | zero => rfl
  | succ q ih => rw [Nat.mul_succ, iterT_add, ih, he]
theorem order_iff {p e : Nat} (h1 : 1 ≤ e) (he : iterT p e 1 = 1) (hj : ∀ j, 1 ≤ j → j < e → iterT p j 1 ≠ 1) (f : Nat) : iterT p f 1 = 1 ↔ f % e = 0 := by
  have hf : iterT p f 1 = iterT p (f % e) 1 := by
    conv => lhs; rw [← Nat.div_add_mod f e]
    rw [iterT_add, iterT_mul he]
  rw [hf]
  have hlt := Nat.mod_lt f (show e > 0 from h1)
  constructor
  · intro h
    rcases Nat.eq_zero_or_pos (f % e) with h0 | h0
    · exact h0
    · exact absurd h (hj _ h0 hlt)
  · intro h; rw [h]; rfl
theorem ten_zeros {z : Nat} (h : z ≤ 10) : ((⟨#[48, 48, 48, 48, 48, 48, 48, 48, 48, 48]⟩ : ByteArray).extract 0 z).data.toList = List.replicate z 48 := by
  have : z = 0 ∨ z = 1 ∨ z = 2 ∨ z = 3 ∨ z = 4 ∨ z = 5 ∨ z = 6 ∨ z = 7 ∨ z = 8 ∨ z = 9 ∨ z = 10 := by omega
  rcases this with rfl | rfl | rfl | rfl | rfl | rfl | rfl | rfl | rfl | rfl | rfl <;> decide +kernel
theorem zeros_bits (z : Nat) : (List.replicate z (48 : UInt8)).all isBitB = true := by
  rw [List.all_eq_true]
  intro c hc
  rw [List.eq_of_mem_replicate hc]; decide
theorem bit_str (v : Nat) (h : v = 0 ∨ v = 1) : strOfNums ([(wrap64 (48 + (v : Int))) % 256] : List Int) = (⟨#[if v = 1 then 49 else 48]⟩ : ByteArray) := by
  rcases h with rfl | rfl <;> decide +kernel
theorem BU_l2 {P n : Nat} (h1 : 2 ≤ P) (h2 : P ≤ 127) (m : List Int) (hm : ∀ x ∈ m, (Lit.int .u8 x).wf = true) (S ord : Int) (two : Bool) (hn : n ≤ deg P) (x : Nat) (hx0 : x ≠ 0) (hx : x < 2 ^ (deg P - Lib.ctzFrom 64 P)) (hxn : x < 2 ^ n) (hx64 : x < 64)
    (next : Ev (fun k => laws_FnBursts.l1 k m (P : Int) S ord two (n : Int) ((x + 1 : Nat) : Int)) true) :
    ∀ (w : Nat) (s : ByteArray), w ≤ n → s.data.toList ++ dgB x w = dgB x n → Ev (fun k => laws_FnBursts.l2 k m (P : Int) S ord two (n : Int) (x : Int) s ((w : Int) - 1)) true := by
  have hd6 : deg P ≤ 6 := deg_le (by omega) (p_lt64 (by omega)) (by omega)
  intro w
  induction w with
  | zero =>
    intro s hw hs
    have c1 : ¬ (((0 : Nat) : Int) - 1 ≥ 0) := by omega
    rw [dgB, List.append_nil] at hs
    have hsz : s.size = n := by rw [← size_data, hs, dgB_length]
    obtain ⟨z, hz, hz0, hz1⟩ := r8At_eq m hm 0 10 (by omega) (by omega)
    obtain ⟨z, rfl⟩ := Int.eq_ofNat_of_zero_le hz0
    have hex := ten_zeros (z := z) (by omega)
    have c2 : (0 : Int) ≤ (z : Int) := by omega
    have c3 : (z : Int) ≤ 10 := by omega
    generalize hE : (⟨#[48, 48, 48, 48, 48, 48, 48, 48, 48, 48]⟩ : ByteArray).extract 0 z = E at *
    have hEs : E.size = z := by rw [← size_data, hex, List.length_replicate]
    have c4 : s.size + E.size ≤ 9223372036854775807 := by omega
    have hb : (s ++ E).data.toList.all isBitB = true := by
      rw [ByteArray.data_append, Array.toList_append, List.all_append, hs, hex, dgB_bits, zeros_bits]; rfl
    have hrem : remN P (s ++ E).data.toList 0 = iterT P z x := by
      rw [ByteArray.data_append, Array.toList_append, remN_append, hs, hex, remN_zeros, remN_dg x n (deg P - n) 0 (by omega) (Nat.two_pow_pos _), Nat.zero_mul, Nat.zero_add, Nat.mod_eq_of_lt hxn]
    have hH := HasCheck_impl h1 (by omega) (s ++ E) (by rw [ByteArray.size_append]; omega) hb
    have hne := burst_ne h1 h2 hx0 hx (show z ≤ 9 by omega)
    rw [hrem, show (((iterT P z x : Nat) : Int) == 0) = false from beq_eq_false_iff_ne.2 (by omega)] at hH
    apply Ev.succ
    simp only [laws_FnBursts.l2, w64_succ (show x < 9223372036854775807 by omega)]
    refine Ev.cond (fun h' => absurd h' c1) (fun _ => ?_)
    refine Ev.bind (Ev.const hz) ?_
    rw [Int.toNat_natCast, hE]
    refine Ev.cond (fun _ => ?_) (fun h' => absurd c2 h')
    refine Ev.cond (fun _ => ?_) (fun h' => absurd c3 h')
    refine Ev.cond (fun _ => ?_) (fun h' => absurd c4 h')
    refine Ev.bind hH ?_
    exact Ev.cond (fun h' => absurd h' (by decide)) (fun _ => next)
  | succ w ih =>
    intro s hw hs
    have e0 : (((w + 1 : Nat) : Int) - 1) = (w : Int) := by omega
    have c1 : (w : Int) ≥ 0 := by omega
    have c2 : (0 : Int) ≤ (w : Int) := by omega
    have hu : IntKind.u64.wrap (w : Int) = (w : Int) := u64_nat (by omega)
    have e1 := bit_at x w (Nat.lt_trans hx64 (by decide)) (by omega)
    have e3 : wrap64 ((w : Int) - 1) = (w : Int) - 1 := w64 (by omega) (by omega)
    have hbit : x / 2 ^ w % 2 = 0 ∨ x / 2 ^ w % 2 = 1 := by omega
    have e4 := bit_str _ hbit
    rw [dgB] at hs
    have hsz : s.size ≤ 9 := by
      have := congrArg List.length hs
      rw [List.length_append, size_data, dgB_length, List.length_cons] at this; omega
    have hsz1 : (strOfNums ([(wrap64 (48 + ((x / 2 ^ w % 2 : Nat) : Int))) % 256] : List Int)).size = 1 := by rw [str_size]; rfl
    have c3 : s.size + (strOfNums ([(wrap64 (48 + ((x / 2 ^ w % 2 : Nat) : Int))) % 256] : List Int)).size ≤ 9223372036854775807 := by omega
    rw [e0]
    apply Ev.succ
    simp only [laws_FnBursts.l2, hu, e1, e3]
    refine Ev.cond (fun _ => ?_) (fun h' => absurd c1 h')
    refine Ev.cond (fun _ => ?_) (fun h' => absurd c2 h')
    refine Ev.bind (Ev.now _) ?_
    refine Ev.cond (fun _ => ?_) (fun h' => absurd c3 h')
    rw [e4]
    refine ih _ (by omega) ?_
    rw [ByteArray.data_append, Array.toList_append, List.append_assoc]
    exact hs
theorem BU_l1 {P n : Nat} (h1 : 2 ≤ P) (h2 : P ≤ 127) (m : List Int) (hm : ∀ x ∈ m, (Lit.int .u8 x).wf = true) (S ord : Int) (two : Bool) (hn1 : 1 ≤ n) (hn6 : n ≤ 6) (hnd : n ≤ deg P) (Q Z : Nat) (hQ : 2 ^ n = Q) (hZ : 2 ^ (deg P - Lib.ctzFrom 64 P) = Z) (hn64 : Q ≤ 64) (hnz : Q ≤ Z)
    (next : Ev (fun k => laws_FnBursts.l0 k m (P : Int) S ord two ((n + 1 : Nat) : Int)) true) :
    ∀ (d x : Nat), x + d = Q → Ev (fun k => laws_FnBursts.l1 k m (P : Int) S ord two (n : Int) (x : Int)) true := by
  have en : ((n - 1 : Nat) : Int) = (n : Int) - 1 := by omega
  have hu : IntKind.u64.wrap (n : Int) = (n : Int) := u64_nat (by omega)
  have hsh := shl_one (n := n) (by omega)
  rw [hQ] at hsh
  have hw : wrap64 ((n : Int) - 1) = ((n - 1 : Nat) : Int) := by rw [w64 (by omega) (by omega)]; omega
  have hu2 : IntKind.u64.wrap ((n - 1 : Nat) : Int) = ((n - 1 : Nat) : Int) := u64_nat (by omega)
  have c0 : (0 : Int) ≤ (n : Int) := by omega
  have c00 : (0 : Int) ≤ ((n - 1 : Nat) : Int) := by omega
  intro d
  induction d with
  | zero =>
    intro x hx
    have c1 : ¬ (x : Int) < (Q : Int) := by rw [← hx]; exact Int.lt_irrefl _
    apply Ev.succ
    simp only [laws_FnBursts.l1, hu, hsh, w64_succ (show n < 9223372036854775807 by omega)]
    refine Ev.cond (fun _ => ?_) (fun h' => absurd c0 h')
    exact Ev.cond (fun h' => absurd h' c1) (fun _ => next)
  | succ d ih =>
    intro x hx
    have hxQ : x < Q := by rw [← hx]; exact Nat.lt_add_of_pos_right (Nat.succ_pos d)
    have c1 : (x : Int) < (Q : Int) := Int.ofNat_lt.2 hxQ
    have h3 := ih (x + 1) (by rw [← hx, Nat.add_assoc, Nat.add_comm 1 d])
    have hx64 : x < 64 := Nat.lt_of_lt_of_le hxQ hn64
    have hm2 : Int.tmod (x : Int) 2 = ((x % 2 : Nat) : Int) := by rw [Int.tmod_eq_emod_of_nonneg (by omega)]; rfl
    have hshr := shr_nat x (n - 1) (by omega)
    generalize x / 2 ^ (n - 1) = y at hshr
    have hxs := w64_succ (Nat.lt_trans hx64 (by decide))
    have skip : Ev (fun k => laws_FnBursts.j3 k m (P : Int) S ord two (n : Int) (x : Int) true) true := by
      apply Ev.succ
      simp only [laws_FnBursts.j3, hxs]
      exact Ev.cond (fun _ => h3) (fun h' => absurd (by trivial) h')
    apply Ev.succ
    simp only [laws_FnBursts.l1, hu, hsh, hm2, hw, hu2, hshr]
    refine Ev.cond (fun _ => ?_) (fun h' => absurd c0 h')
    refine Ev.cond (fun _ => ?_) (fun h' => absurd c1 h')
    by_cases hz : x % 2 = 0
    · exact Ev.cond (fun _ => skip) (fun h' => absurd (by rw [hz]; rfl) h')
    · refine Ev.cond (fun h' => absurd (Int.ofNat.inj h') hz) (fun _ => ?_)
      refine Ev.cond (fun _ => ?_) (fun h' => absurd c00 h')
      cases hb : ((y : Int) == 0) with
      | true => exact skip
      | false =>
        apply Ev.succ
        simp only [laws_FnBursts.j3, hw]
        refine Ev.cond (fun h' => absurd h' (by decide)) (fun _ => ?_)
        rw [en]
        exact BU_l2 h1 h2 m hm S ord two hnd x (fun e => hz (by rw [e])) (by rw [hZ]; exact Nat.lt_of_lt_of_le hxQ hnz) (by rw [hQ]; exact hxQ) hx64 h3 n (⟨#[]⟩ : ByteArray) (Nat.le_refl _) rfl
theorem BU_l0 {P : Nat} (h1 : 2 ≤ P) (h2 : P ≤ 127) (m : List Int) (hm : ∀ x ∈ m, (Lit.int .u8 x).wf = true) (ord : Int) (two : Bool)
    (next : Ev (fun k => laws_FnBursts.l3 k m (P : Int) ord two (⟨#[]⟩ : ByteArray) 6) true) :
    ∀ (d n : Nat), 1 ≤ n → n + d = deg P - Lib.ctzFrom 64 P + 1 → Ev (fun k => laws_FnBursts.l0 k m (P : Int) ((deg P - Lib.ctzFrom 64 P + 1 : Nat) : Int) ord two (n : Int)) true := by
  intro d
  induction d with
  | zero =>
    intro n hn h
    have c1 : ¬ (n : Int) < ((deg P - Lib.ctzFrom 64 P + 1 : Nat) : Int) := by omega
    apply Ev.succ
    simp only [laws_FnBursts.l0]
    exact Ev.cond (fun h' => absurd h' c1) (fun _ => next)
  | succ d ih =>
    intro n hn h
    have c1 : (n : Int) < ((deg P - Lib.ctzFrom 64 P + 1 : Nat) : Int) := by omega
    apply Ev.succ
    simp only [laws_FnBursts.l0]
    refine Ev.cond (fun _ => ?_) (fun h' => absurd c1 h')
    have hd6 : deg P ≤ 6 := deg_le (by omega) (p_lt64 (by omega)) (by omega)
    have hn2 : n ≤ deg P - Lib.ctzFrom 64 P := by omega
    have hn64 : 2 ^ n ≤ 64 := Nat.pow_le_pow_right (show 0 < 2 by decide) (show n ≤ 6 from Nat.le_trans hn2 (Nat.le_trans (Nat.sub_le _ _) hd6))
    have hnz : 2 ^ n ≤ 2 ^ (deg P - Lib.ctzFrom 64 P) := Nat.pow_le_pow_right (show 0 < 2 by decide) hn2
    exact BU_l1 h1 h2 m hm _ ord two hn (Nat.le_trans hn2 (Nat.le_trans (Nat.sub_le _ _) hd6)) (Nat.le_trans hn2 (Nat.sub_le _ _)) _ _ rfl rfl hn64 hnz (ih (n + 1) (by omega) (by omega)) (2 ^ n) 0 (Nat.zero_add _)
theorem BU_l4 {P e : Nat} (h1 : 2 ≤ P) (h2 : P ≤ 127) (he1 : 1 ≤ e) (he : iterT P e 1 = 1) (hj : ∀ j, 1 ≤ j → j < e → iterT P j 1 ≠ 1) (f : Nat) (hf1 : 1 ≤ f) (hf : f ≤ 130) :
    ∀ (d k : Nat) (s : ByteArray), 1 ≤ k → k + d = f → s.data.toList = 49 :: List.replicate (k - 1) 48 → Ev (fun q => laws_FnBursts.l4 q (P : Int) (e : Int) (f : Int) s (k : Int)) true := by
  intro d
  induction d with
  | zero =>
    intro k s hk h hs
    obtain rfl : k = f := by omega
    have hsz : s.size = k := by rw [← size_data, hs, List.length_cons, List.length_replicate]; omega
    have c1 : ¬ (k : Int) < (k : Int) := Int.lt_irrefl _
    have c2 : (e : Int) ≥ 1 := by omega
    have c3 : s.size + 1 ≤ 9223372036854775807 := by omega
    have c4 : ¬ (e : Int) = 0 := by omega
    have hl : (s ++ (⟨#[49]⟩ : ByteArray)).data.toList = 49 :: (List.replicate (k - 1) 48 ++ [49]) := by
      rw [ByteArray.data_append, Array.toList_append, hs]; rfl
    have hb : (s ++ (⟨#[49]⟩ : ByteArray)).data.toList.all isBitB = true := by
      rw [hl, List.all_cons, List.all_append, zeros_bits]; decide
    have hrem : remN P (s ++ (⟨#[49]⟩ : ByteArray)).data.toList 0 = iterT P k 1 ^^^ 1 := by
      rw [hl, remN_cons, T_zero, remN_append, remN_zeros, remN_cons, show bv 49 = 1 by decide, Nat.zero_xor]
      show T P (iterT P (k - 1) 1) ^^^ 1 = _
      rw [← iterT_next, show k - 1 + 1 = k by omega]
    have hH := HasCheck_impl h1 (by omega) (s ++ (⟨#[49]⟩ : ByteArray)) (by rw [ByteArray.size_append, hsz]; show k + 1 ≤ 400; omega) hb
    rw [hrem] at hH
    have hm : Int.tmod (k : Int) (e : Int) = ((k % e : Nat) : Int) := by rw [Int.tmod_eq_emod_of_nonneg (by omega)]; rfl
    have ho := order_iff he1 he hj k
    have hx : iterT P k 1 ^^^ 1 = 0 ↔ iterT P k 1 = 1 := by
      constructor
      · intro h
        have : (iterT P k 1 ^^^ 1) ^^^ 1 = 0 ^^^ 1 := by rw [h]
        rwa [Nat.xor_assoc, Nat.xor_self, Nat.xor_zero, Nat.zero_xor] at this
      · intro h; rw [h, Nat.xor_self]
    apply Ev.succ
    simp only [laws_FnBursts.l4, hm]
    refine Ev.cond (fun h' => absurd h' c1) (fun _ => ?_)
    refine Ev.cond (fun _ => ?_) (fun h' => absurd c2 h')
    refine Ev.cond (fun _ => ?_) (fun h' => absurd c3 h')
    refine Ev.bind hH ?_
    refine Ev.cond (fun h' => absurd h' c4) (fun _ => ?_)
    have e5 : ((((iterT P k 1 ^^^ 1 : Nat) : Int) == 0) == (((k % e : Nat) : Int) == 0)) = true := by
      by_cases hz : k % e = 0
      · rw [hz, hx.2 (ho.2 hz)]; rfl
      · have hz2 : ¬ iterT P k 1 ^^^ 1 = 0 := fun h => hz (ho.1 (hx.1 h))
        rw [beq_eq_false_iff_ne.2 (show ((k % e : Nat) : Int) ≠ 0 by omega), beq_eq_false_iff_ne.2 (show ((iterT P k 1 ^^^ 1 : Nat) : Int) ≠ 0 by omega)]; rfl
    rw [e5]
    exact Ev.now _
  | succ d ih =>
    intro k s hk h hs
    have hsz : s.size = k := by rw [← size_data, hs, List.length_cons, List.length_replicate]; omega
    have c1 : (k : Int) < (f : Int) := by omega
    have c3 : s.size + 1 ≤ 9223372036854775807 := by omega
    have h3 := ih (k + 1) (s ++ (⟨#[48]⟩ : ByteArray)) (by omega) (by omega) (by
      rw [ByteArray.data_append, Array.toList_append, hs, show k + 1 - 1 = (k - 1) + 1 by omega, List.replicate_succ']; rfl)
    apply Ev.succ
    simp only [laws_FnBursts.l4, w64_succ (show k < 9223372036854775807 by omega)]
    refine Ev.cond (fun _ => ?_) (fun h' => absurd c1 h')
    exact Ev.cond (fun _ => h3) (fun h' => absurd c3 h')
theorem BU_l3 {P : Nat} (h1 : 2 ≤ P) (h2 : P ≤ 127) (m : List Int) (ord : Int) (two : Bool)
    (fin : Ev (fun k => if two = true then ((laws_r8At.f m 1 130).bind fun t144 => (laws_FnBursts.l4 k (P : Int) ord (wrap64 (1 + t144)) (⟨#[49]⟩ : ByteArray) 1)) else (some true)) true) :
    ∀ (w : Nat) (s : ByteArray), w ≤ 7 → s.data.toList ++ dgB P w = dgB P 7 → Ev (fun k => laws_FnBursts.l3 k m (P : Int) ord two s ((w : Int) - 1)) true := by
  intro w
  induction w with
  | zero =>
    intro s hw hs
    have c1 : ¬ (((0 : Nat) : Int) - 1 ≥ 0) := by omega
    rw [dgB, List.append_nil] at hs
    have hsz : s.size = 7 := by rw [← size_data, hs, dgB_length]
    have hb : s.data.toList.all isBitB = true := by rw [hs]; exact dgB_bits P 7
    have hH := HasCheck_impl h1 (by omega) s (by omega) hb
    rw [hs, own_zero h1 h2] at hH
    apply Ev.succ
    simp only [laws_FnBursts.l3]
    refine Ev.cond (fun h' => absurd h' c1) (fun _ => ?_)
    refine Ev.bind hH ?_
    exact Ev.cond (fun _ => fin) (fun h' => absurd (by decide) h')
  | succ w ih =>
    intro s hw hs
    have e0 : (((w + 1 : Nat) : Int) - 1) = (w : Int) := by omega
    have c1 : (w : Int) ≥ 0 := by omega
    have c2 : (0 : Int) ≤ (w : Int) := by omega
    have hu : IntKind.u64.wrap (w : Int) = (w : Int) := u64_nat (by omega)
    have e1 := bit_at P w (Nat.lt_of_le_of_lt h2 (by decide)) (by omega)
    have e3 : wrap64 ((w : Int) - 1) = (w : Int) - 1 := w64 (by omega) (by omega)
    have hbit : P / 2 ^ w % 2 = 0 ∨ P / 2 ^ w % 2 = 1 := by omega
    have e4 := bit_str _ hbit
    rw [dgB] at hs
    have hsz : s.size ≤ 9 := by
      have := congrArg List.length hs
      rw [List.length_append, size_data, dgB_length, List.length_cons] at this; omega
    have hsz1 : (strOfNums ([(wrap64 (48 + ((P / 2 ^ w % 2 : Nat) : Int))) % 256] : List Int)).size = 1 := by rw [str_size]; rfl
    have c3 : s.size + (strOfNums ([(wrap64 (48 + ((P / 2 ^ w % 2 : Nat) : Int))) % 256] : List Int)).size ≤ 9223372036854775807 := by omega
    rw [e0]
    apply Ev.succ
    simp only [laws_FnBursts.l3, hu, e1, e3]
    refine Ev.cond (fun _ => ?_) (fun h' => absurd c1 h')
    refine Ev.cond (fun _ => ?_) (fun h' => absurd c2 h')
    refine Ev.bind (Ev.now _) ?_
    refine Ev.cond (fun _ => ?_) (fun h' => absurd c3 h')
    rw [e4]
    refine ih _ (by omega) ?_
    rw [ByteArray.data_append, Array.toList_append, List.append_assoc]
    exact hs
theorem FnBursts : laws_FnBursts.Pure := by
  intro l m hl hl2 hlw hm hm2 hmw
  refine Ev.rounds ?_
  unfold laws_FnBursts.f
  obtain ⟨b, hb, _⟩ := r8Long_eq l m
  refine Ev.bind (Ev.const hb) ?_
  refine Ev.cond (fun _ => Ev.now _) (fun _ => ?_)
  obtain ⟨P, hP, h1, h2⟩ := R8Check_eq l hlw
  have h3 : P ≤ 131071 := by omega
  have hd6 : deg P ≤ 6 := deg_le (by omega) (p_lt64 h3) (by omega)
  have hc : Lib.ctz 64 P = Lib.ctzFrom 64 P := by unfold Lib.ctz; rw [if_neg (by omega)]
  have hcd : Lib.ctzFrom 64 P ≤ deg P := by
    obtain ⟨q, hq, _⟩ := Lib.ctzFrom_spec 64 P (by omega) (by omega)
    have hdp := deg_spec (p := P) (by omega) (p_lt64 h3)
    have hle : 2 ^ Lib.ctzFrom 64 P ≤ P := by
      calc 2 ^ Lib.ctzFrom 64 P = 2 ^ Lib.ctzFrom 64 P * 1 := (Nat.mul_one _).symm
        _ ≤ 2 ^ Lib.ctzFrom 64 P * (2 * q + 1) := Nat.mul_le_mul_left _ (by omega)
        _ = P := hq.symm
    rcases Nat.lt_or_ge (deg P) (Lib.ctzFrom 64 P) with h | h
    · have h5 := Nat.pow_le_pow_right (show 0 < 2 by decide) (show deg P + 1 ≤ Lib.ctzFrom 64 P from h)
      exact absurd (Nat.lt_of_lt_of_le hdp.2 (Nat.le_trans h5 hle)) (Nat.lt_irrefl _)
    · exact h
  have w1 : wrap64 ((deg P : Int) - (Lib.ctzFrom 64 P : Int)) = (deg P : Int) - (Lib.ctzFrom 64 P : Int) := w64 (by omega) (by omega)
  have w2 : wrap64 ((deg P : Int) - (Lib.ctzFrom 64 P : Int) + 1) = ((deg P - Lib.ctzFrom 64 P + 1 : Nat) : Int) := by rw [w64 (by omega) (by omega)]; omega
  have hS : impl_ShortestMissed.f (P : Int) = some (((deg P - Lib.ctzFrom 64 P + 1 : Nat) : Int), true) := by
    unfold impl_ShortestMissed.f
    rw [IsCheck_eq, Option.bind_some, decide_eq_true (show 2 ≤ (P : Int) ∧ (P : Int) ≤ 131071 by omega), if_pos rfl, degree_eq h1 h3, Option.bind_some, if_pos (show 2 ≤ (P : Int) ∧ (P : Int) ≤ 131071 by omega), Int.toNat_natCast, hc, w1, w2]
  have hm2' : Int.tmod (P : Int) 2 = ((P % 2 : Nat) : Int) := by rw [Int.tmod_eq_emod_of_nonneg (by omega)]; rfl
  refine Ev.bind (Ev.const hP) (Ev.bind (Ev.const hS) ?_)
  have body : ∀ (ord : Int) (two : Bool),
      Ev (fun k => if two = true then ((laws_r8At.f m 1 130).bind fun t144 => (laws_FnBursts.l4 k (P : Int) ord (wrap64 (1 + t144)) (⟨#[49]⟩ : ByteArray) 1)) else (some true)) true →
      Ev (fun k => laws_FnBursts.j0 k m (P : Int) ((deg P - Lib.ctzFrom 64 P + 1 : Nat) : Int) ord two false) true := by
    intro ord two fin
    apply Ev.succ
    simp only [laws_FnBursts.j0]
    refine Ev.cond (fun h' => absurd h' (by decide)) (fun _ => ?_)
    have h := BU_l3 h1 h2 m ord two fin 7 (⟨#[]⟩ : ByteArray) (Nat.le_refl _) rfl
    exact BU_l0 h1 h2 m hmw ord two h (deg P - Lib.ctzFrom 64 P) 1 (Nat.le_refl _) (Nat.add_comm _ _)
  have z1 : ¬ ((deg P - Lib.ctzFrom 64 P + 1 : Nat) : Int) < 1 := by omega
  have z2 : ¬ ((deg P - Lib.ctzFrom 64 P + 1 : Nat) : Int) > 7 := by omega
  clear w1 w2 hcd hc
  generalize ((deg P - Lib.ctzFrom 64 P + 1 : Nat) : Int) = S at *
  rcases CO_impl h1 h3 with ⟨h0, hC⟩ | ⟨h0, e, he1, he, hj, hC⟩
  · have e6 : (false != ((Int.tmod (P : Int) 2) == 1)) = false := by rw [hm2', h0]; rfl
    have fin := body 0 false (Ev.cond (fun h' => absurd h' (by decide)) (fun _ => Ev.now _))
    refine Ev.bind hC ?_
    dsimp only
    rw [e6]
    refine Ev.cond (fun _ => ?_) (fun h' => absurd rfl h')
    refine Ev.cond (fun h' => absurd h' z1) (fun _ => ?_)
    exact Ev.cond (fun h' => absurd h' z2) (fun _ => fin)
  · have e6 : (true != ((Int.tmod (P : Int) 2) == 1)) = false := by rw [hm2', h0]; rfl
    obtain ⟨t, ht, ht0, ht1⟩ := r8At_eq m hmw 1 130 (by omega) (by omega)
    obtain ⟨t, rfl⟩ := Int.eq_ofNat_of_zero_le ht0
    have w3 : wrap64 (1 + (t : Int)) = ((t + 1 : Nat) : Int) := by rw [w64 (by omega) (by omega)]; omega
    have f4 : Ev (fun q => laws_FnBursts.l4 q (P : Int) (e : Int) ((t + 1 : Nat) : Int) (⟨#[49]⟩ : ByteArray) ((1 : Nat) : Int)) true := BU_l4 h1 h2 he1 he hj (t + 1) (Nat.succ_le_succ (Nat.zero_le _)) (Nat.succ_le_of_lt (Int.ofNat_lt.1 ht1)) t 1 (⟨#[49]⟩ : ByteArray) (Nat.le_refl 1) (Nat.add_comm 1 t) (by decide)
    have fin := body (e : Int) true (by
      refine Ev.cond (fun _ => ?_) (fun h' => absurd (by trivial) h')
      refine Ev.bind (Ev.const ht) ?_
      rw [w3]
      exact f4)
    refine Ev.bind hC ?_
    dsimp only
    rw [e6]
    refine Ev.cond (fun _ => ?_) (fun h' => absurd rfl h')
    refine Ev.cond (fun h' => absurd h' z1) (fun _ => ?_)
    exact Ev.cond (fun h' => absurd h' z2) (fun _ => fin)

end Go.Proofs.YtckjcighblnnfaaDoor.Pure
