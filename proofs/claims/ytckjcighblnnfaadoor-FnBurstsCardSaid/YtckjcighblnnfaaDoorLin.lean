/- Plain lemmas: remainders of bits are sums of powers; subsets of a list are counted by numbers. They speak of no Go. -/
import Derived.Test.YtckjcighblnnfaaDoorPoly
namespace Go.Proofs.YtckjcighblnnfaaDoor.Lin
open Go.RowKit Go.Proofs.YtckjcighblnnfaaDoorW.PrintWords Go.Proofs.YtckjcighblnnfaaDoorW.PrintMore Go.Proofs.YtckjcighblnnfaaDoor.Base Go.Proofs.YtckjcighblnnfaaDoor.Poly

theorem dbl_xor2 (a b : Nat) : 2 * (a ^^^ b) = (2 * a) ^^^ (2 * b) := by
  apply Nat.eq_of_testBit_eq
  intro i
  cases i with
  | zero => simp [Nat.testBit_zero]
  | succ i =>
    rw [Nat.testBit_xor, Nat.testBit_succ, Nat.testBit_succ, Nat.testBit_succ, Nat.mul_div_cancel_left _ (by decide), Nat.mul_div_cancel_left _ (by decide), Nat.mul_div_cancel_left _ (by decide), Nat.testBit_xor]
theorem top_testBit {d r : Nat} (h : r < 2 ^ d) : (2 * r / 2 ^ d = 1) ↔ (2 * r).testBit d = true := by
  rw [Nat.testBit_eq_decide_div_mod_eq, decide_eq_true_eq]
  have h1 := dbl_div h
  generalize 2 * r / 2 ^ d = q at h1 ⊢
  omega
theorem T_eq {p r : Nat} (h : r < 2 ^ deg p) : T p r = (2 * r) ^^^ (if (2 * r).testBit (deg p) = true then p else 0) := by
  unfold T
  by_cases c : 2 * r / 2 ^ deg p = 1
  · rw [if_pos c, if_pos ((top_testBit h).1 c)]
  · rw [if_neg c, if_neg (fun e => c ((top_testBit h).2 e)), Nat.xor_zero]
theorem T_xor {p a b : Nat} (ha : a < 2 ^ deg p) (hb : b < 2 ^ deg p) : T p (a ^^^ b) = T p a ^^^ T p b := by
  rw [T_eq (Nat.xor_lt_two_pow ha hb), T_eq ha, T_eq hb, dbl_xor2, Nat.testBit_xor]
  generalize 2 * a = x
  generalize 2 * b = y
  have e4 : (x ^^^ p) ^^^ (y ^^^ p) = (x ^^^ y) ^^^ (p ^^^ p) := by ac_rfl
  have e3 : (x ^^^ p) ^^^ y = (x ^^^ y) ^^^ p := by ac_rfl
  have e2 : x ^^^ (y ^^^ p) = (x ^^^ y) ^^^ p := by ac_rfl
  cases x.testBit (deg p) <;> cases y.testBit (deg p)
  · simp
  · simp [e2]
  · simp [e3]
  · simp [e4]
theorem iterT_lt' {p : Nat} (h1 : 2 ≤ p) (h2 : p < 2 ^ 64) : ∀ (n r : Nat), r < 2 ^ deg p → iterT p n r < 2 ^ deg p := by
  intro n
  induction n with
  | zero => intro r hr; exact hr
  | succ n ih => intro r hr; exact ih _ (T_lt h1 h2 hr)
theorem iterT_xor {p : Nat} (h1 : 2 ≤ p) (h2 : p < 2 ^ 64) : ∀ (n a b : Nat), a < 2 ^ deg p → b < 2 ^ deg p → iterT p n (a ^^^ b) = iterT p n a ^^^ iterT p n b := by
  intro n
  induction n with
  | zero => intro a b ha hb; rfl
  | succ n ih =>
    intro a b ha hb
    simp only [iterT]
    rw [T_xor ha hb, ih _ _ (T_lt h1 h2 ha) (T_lt h1 h2 hb)]
theorem iterT_zero (p : Nat) : ∀ n : Nat, iterT p n 0 = 0 := by
  intro n
  induction n with
  | zero => rfl
  | succ n ih => simp only [iterT, T_zero]; exact ih
theorem pows_last (p : Nat) : ∀ (n r : Nat), pows p (n + 1) r = pows p n r ++ [iterT p n r] := by
  intro n
  induction n with
  | zero => intro r; rfl
  | succ n ih =>
    intro r
    rw [pows, ih (T p r)]; rfl
/-- The sum of the numbers of a list that a number's bits choose, and how many these are. -/
def selX : List Nat → Nat → Nat
  | [], _ => 0
  | a :: l, x => (if x % 2 = 1 then a else 0) ^^^ selX l (x / 2)
def wtX : Nat → Nat → Nat
  | 0, _ => 0
  | n + 1, x => x % 2 + wtX n (x / 2)
theorem selX_snoc (l : List Nat) : ∀ (a x : Nat), selX (l ++ [a]) x = selX l x ^^^ (if x / 2 ^ l.length % 2 = 1 then a else 0) := by
  induction l with
  | nil => intro a x; simp [selX]
  | cons b l ih =>
    intro a x
    rw [List.cons_append, selX, ih, selX, List.length_cons, Nat.xor_assoc, Nat.div_div_eq_div_mul, Nat.pow_succ, Nat.mul_comm 2]
theorem wtX_snoc : ∀ (n x : Nat), wtX (n + 1) x = wtX n x + x / 2 ^ n % 2 := by
  intro n
  induction n with
  | zero => intro x; simp [wtX]
  | succ n ih =>
    intro x
    rw [wtX, ih, wtX, Nat.div_div_eq_div_mul, Nat.pow_succ, Nat.mul_comm 2, Nat.add_assoc]
theorem wtX_le : ∀ (n x : Nat), wtX n x ≤ n := by
  intro n
  induction n with
  | zero => intro x; exact Nat.le_refl _
  | succ n ih => intro x; have := ih (x / 2); simp only [wtX]; omega
theorem wtX_pos : ∀ (n x : Nat), 1 ≤ x → x < 2 ^ n → 1 ≤ wtX n x := by
  intro n
  induction n with
  | zero => intro x h1 h2; simp at h2; omega
  | succ n ih =>
    intro x h1 h2
    simp only [wtX]
    by_cases h : x % 2 = 1
    · omega
    · have := ih (x / 2) (by omega) (by rw [Nat.pow_succ] at h2; omega)
      omega
/-- Binary digits as bytes, the greatest one first. -/
def dgB (x : Nat) : Nat → List UInt8
  | 0 => []
  | w + 1 => (if x / 2 ^ w % 2 = 1 then 49 else 48) :: dgB x w
theorem dgB_length (x w : Nat) : (dgB x w).length = w := by
  induction w with
  | zero => rfl
  | succ w ih => simp [dgB, ih]
theorem dgB_bits (x w : Nat) : (dgB x w).all isBitB = true := by
  induction w with
  | zero => rfl
  | succ w ih =>
    rw [dgB, List.all_cons, ih, Bool.and_true]
    split <;> decide
theorem remN_sel {p : Nat} (h1 : 2 ≤ p) (h2 : p < 2 ^ 64) (x : Nat) : ∀ (n r : Nat), r < 2 ^ deg p → remN p (dgB x n) r = iterT p n r ^^^ selX (pows p n 1) x := by
  have hone : 1 < 2 ^ deg p := by
    have := Nat.pow_le_pow_right (show 0 < 2 by decide) (deg_pos h1 h2)
    simp at this; omega
  intro n
  induction n with
  | zero => intro r hr; simp [remN, dgB, iterT, selX, pows]
  | succ n ih =>
    intro r hr
    have hT := T_lt h1 h2 hr
    have hb : (if x / 2 ^ n % 2 = 1 then 1 else 0) < 2 ^ deg p := by split <;> omega
    have e : (if (if x / 2 ^ n % 2 = 1 then (49 : UInt8) else 48) = 49 then 1 else 0) = (if x / 2 ^ n % 2 = 1 then 1 else 0) := by
      by_cases h : x / 2 ^ n % 2 = 1
      · simp [h]
      · simp [h]
    have e2 : iterT p n (if x / 2 ^ n % 2 = 1 then 1 else 0) = if x / 2 ^ n % 2 = 1 then iterT p n 1 else 0 := by
      by_cases h : x / 2 ^ n % 2 = 1
      · rw [if_pos h, if_pos h]
      · rw [if_neg h, if_neg h]; exact iterT_zero p n
    rw [dgB, remN, e, ih _ (Nat.xor_lt_two_pow hT hb), iterT_xor h1 h2 n _ _ hT hb, e2, pows_last, selX_snoc, pows_length]
    simp only [iterT]
    ac_rfl
def sumTo (f : Nat → Int) : Nat → Int
  | 0 => 0
  | n + 1 => sumTo f n + f n
theorem sumTo_dbl (f : Nat → Int) (n : Nat) : sumTo f (2 * n) = sumTo (fun y => f (2 * y) + f (2 * y + 1)) n := by
  induction n with
  | zero => rfl
  | succ n ih =>
    rw [show 2 * (n + 1) = 2 * n + 1 + 1 by omega, sumTo, sumTo, ih, sumTo]; omega
theorem sumTo_add (f g : Nat → Int) (n : Nat) : sumTo (fun y => f y + g y) n = sumTo f n + sumTo g n := by
  induction n with
  | zero => rfl
  | succ n ih => simp only [sumTo, ih]; omega
theorem sumTo_congr {f g : Nat → Int} (h : ∀ y, f y = g y) (n : Nat) : sumTo f n = sumTo g n := by
  have : f = g := funext h
  rw [this]
theorem sumTo_zero (n : Nat) : sumTo (fun _ => 0) n = 0 := by
  induction n with
  | zero => rfl
  | succ n ih => simp only [sumTo, ih]; rfl
/-- Whether a number's bits choose so many numbers of a list that make another one. -/
def hit (l : List Nat) (c r x : Nat) : Int := if wtX l.length x = c ∧ selX l x = r then 1 else 0
theorem xor_move {a s r : Nat} : a ^^^ s = r ↔ s = r ^^^ a := by
  constructor
  · rintro rfl; rw [Nat.xor_comm a s, Nat.xor_assoc, Nat.xor_self, Nat.xor_zero]
  · rintro rfl; rw [Nat.xor_comm r a, ← Nat.xor_assoc, Nat.xor_self, Nat.zero_xor]
theorem nways_sum : ∀ (l : List Nat) (c r : Nat), nways l c r = sumTo (hit l c r) (2 ^ l.length) := by
  intro l
  induction l with
  | nil =>
    intro c r
    simp only [nways, List.length_nil, Nat.pow_zero, sumTo, hit, wtX, selX]
    by_cases h : c = 0 ∧ r = 0
    · rw [if_pos h, if_pos ⟨h.1.symm, h.2.symm⟩]; rfl
    · rw [if_neg h, if_neg (fun e => h ⟨e.1.symm, e.2.symm⟩)]; rfl
  | cons a l ih =>
    intro c r
    have e0 : ∀ y, hit (a :: l) c r (2 * y) = hit l c r y := by
      intro y
      have m : 2 * y % 2 = 0 := by omega
      have q : 2 * y / 2 = y := by omega
      simp only [hit, List.length_cons, wtX, selX, m, q, Nat.zero_add]
      simp
    have e1 : ∀ y, hit (a :: l) c r (2 * y + 1) = if c = 0 then 0 else hit l (c - 1) (r ^^^ a) y := by
      intro y
      have m : (2 * y + 1) % 2 = 1 := by omega
      have q : (2 * y + 1) / 2 = y := by omega
      simp only [hit, List.length_cons, wtX, selX, m, q, if_true]
      by_cases hc : c = 0
      · rw [if_pos hc, if_neg (fun e => by omega)]
      · rw [if_neg hc]
        by_cases hh : wtX l.length y = c - 1 ∧ selX l y = r ^^^ a
        · rw [if_pos hh, if_pos ⟨by omega, xor_move.2 hh.2⟩]
        · rw [if_neg hh, if_neg (fun e => hh ⟨by omega, xor_move.1 e.2⟩)]
    rw [List.length_cons, Nat.pow_succ, Nat.mul_comm, sumTo_dbl, sumTo_add, sumTo_congr e0, sumTo_congr e1]
    by_cases hc : c = 0
    · subst hc
      simp only [if_true]
      rw [sumTo_zero, ← ih, nways_zero, nways_zero]; omega
    · simp only [hc, if_false, nways]
      rw [← ih, ← ih]; omega

end Go.Proofs.YtckjcighblnnfaaDoor.Lin
