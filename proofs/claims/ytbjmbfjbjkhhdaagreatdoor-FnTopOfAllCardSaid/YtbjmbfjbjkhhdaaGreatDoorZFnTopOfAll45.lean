/- Made small by wip/pack.py: lemmas and contracts that the law's row leans on. -/
import Derived.Test.YtbjmbfjbjkhhdaaGreatDoorZFnTopOfAll44
namespace Go.Proofs.YtbjmbfjbjkhhdaaGreatDoor.Poly
open Go.RowKit Go.Proofs.YtbjmbfjbjkhhdaaGreatDoorW.PrintWords Go.Proofs.YtbjmbfjbjkhhdaaGreatDoorW.PrintMore Go.Proofs.YtbjmbfjbjkhhdaaGreatDoor.Base
def dg : Nat → Nat → Nat
 | 0, _ => 0
 | f + 1, x => if x ≤ 1 then 0 else dg f (x / 2) + 1
def deg (p : Nat) : Nat := dg 64 p
theorem dg_spec : ∀ f x, 1 ≤ x → x < 2 ^ f → 2 ^ dg f x ≤ x ∧ x < 2 ^ (dg f x + 1) := by
 intro f
 induction f with
 | zero => intro x h1 h2; simp at h2; omega
 | succ f ih =>
  intro x h1 h2
  unfold dg
  by_cases h : x ≤ 1
  ·rw [if_pos h]; obtain rfl : x = 1 := by omega
   exact ⟨by decide, by decide⟩
  ·rw [if_neg h]
   have hp : 2 ^ (f + 1) = 2 * 2 ^ f := by rw [Nat.pow_succ, Nat.mul_comm]
   obtain ⟨a, b⟩ := ih (x / 2) (by omega) (by omega)
   have e1 : 2 ^ (dg f (x / 2) + 1) = 2 * 2 ^ dg f (x / 2) := by rw [Nat.pow_succ, Nat.mul_comm]
   have e2 : 2 ^ (dg f (x / 2) + 1 + 1) = 2 * 2 ^ (dg f (x / 2) + 1) := by rw [Nat.pow_succ, Nat.mul_comm]
   omega
theorem deg_spec {p : Nat} (h1 : 1 ≤ p) (h2 : p < 2 ^ 64) : 2 ^ deg p ≤ p ∧ p < 2 ^ (deg p + 1) := dg_spec 64 p h1 h2
theorem bitLenAux_dg : ∀ f x, 1 ≤ x → x < 2 ^ f → Lib.bitLenAux f x = dg f x + 1 := by
 intro f
 induction f with
 | zero => intro x h1 h2; simp at h2; omega
 | succ f ih =>
  intro x h1 h2
  unfold Lib.bitLenAux dg
  have hp : 2 ^ (f + 1) = 2 * 2 ^ f := by rw [Nat.pow_succ, Nat.mul_comm]
  rw [if_neg (by omega)]
  by_cases h : x ≤ 1
  ·rw [if_pos h]; obtain rfl : x = 1 := by omega
   cases f with
   | zero => rfl
   | succ f => simp [Lib.bitLenAux]
  ·rw [if_neg h, ih (x / 2) (by omega) (by omega)]; omega
theorem bitLen_deg {p : Nat} (h1 : 1 ≤ p) (h2 : p < 2 ^ 64) : Lib.bitLen p = deg p + 1 := bitLenAux_dg 64 p h1 h2
theorem deg_pos {p : Nat} (h1 : 2 ≤ p) (h2 : p < 2 ^ 64) : 1 ≤ deg p := by
 have := (deg_spec (by omega) h2).2
 rcases Nat.eq_zero_or_pos (deg p) with h | h
 ·rw [h] at this; simp at this; omega
 ·exact h
theorem deg_le {p n : Nat} (h1 : 1 ≤ p) (h2 : p < 2 ^ 64) (h : p < 2 ^ (n + 1)) : deg p ≤ n := by
 have h3 := (deg_spec h1 h2).1
 rcases Nat.lt_or_ge n (deg p) with hn | hn
 ·have : 2 ^ (n + 1) ≤ 2 ^ deg p := Nat.pow_le_pow_right (by decide) hn
  omega
 ·exact hn
def T (p r : Nat) : Nat := if 2 * r / 2 ^ deg p = 1 then (2 * r) ^^^ p else 2 * r
theorem xor_lt_top {d a b : Nat} (ha1 : 2 ^ d ≤ a) (ha2 : a < 2 ^ (d + 1)) (hb1 : 2 ^ d ≤ b) (hb2 : b < 2 ^ (d + 1)) : a ^^^ b < 2 ^ d := by
 have top : ∀ x : Nat, 2 ^ d ≤ x → x < 2 ^ (d + 1) → x.testBit d = true := by
  intro x h1 h2
  rw [Nat.testBit_eq_decide_div_mod_eq]
  have hp : 2 ^ (d + 1) = 2 * 2 ^ d := by rw [Nat.pow_succ, Nat.mul_comm]
  have hq : x / 2 ^ d = 1 := by
   apply Nat.div_eq_of_lt_le
   ·rw [Nat.one_mul]; exact h1
   ·omega
  rw [hq]; rfl
 have h3 : a ^^^ b < 2 ^ (d + 1) := Nat.xor_lt_two_pow ha2 hb2
 apply Nat.lt_pow_two_of_testBit
 intro i hi
 rcases Nat.eq_or_lt_of_le hi with h | h
 ·rw [← h, Nat.testBit_xor, top a ha1 ha2, top b hb1 hb2]; rfl
 ·exact Nat.testBit_lt_two_pow (Nat.lt_of_lt_of_le h3 (Nat.pow_le_pow_right (by decide) h))
theorem dbl_div {d r : Nat} (h : r < 2 ^ d) : 2 * r / 2 ^ d = 0 ∧ 2 * r < 2 ^ d ∨ 2 * r / 2 ^ d = 1 ∧ 2 ^ d ≤ 2 * r ∧ 2 * r < 2 ^ (d + 1) := by
 have hp : 2 ^ (d + 1) = 2 * 2 ^ d := by rw [Nat.pow_succ, Nat.mul_comm]
 rcases Nat.lt_or_ge (2 * r) (2 ^ d) with h1 | h1
 ·exact .inl ⟨Nat.div_eq_of_lt h1, h1⟩
 ·refine .inr ⟨?_, h1, by omega⟩
  apply Nat.div_eq_of_lt_le
  ·rw [Nat.one_mul]; exact h1
  ·omega
theorem T_lt {p r : Nat} (h1 : 2 ≤ p) (h2 : p < 2 ^ 64) (h : r < 2 ^ deg p) : T p r < 2 ^ deg p := by
 unfold T
 have hs := deg_spec (show 1 ≤ p by omega) h2
 rcases dbl_div h with ⟨h3, h4⟩ | ⟨h3, h4, h5⟩
 ·rw [if_neg (by omega)]; exact h4
 ·rw [if_pos h3]; exact xor_lt_top h4 h5 hs.1 hs.2
theorem dbl_or {r b : Nat} (hb : b < 2) : 2 * r ||| b = 2 * r + b := by
 have := Nat.two_pow_add_eq_or_of_lt (i := 1) (b := b) (by simpa using hb) r
 simpa using this.symm
theorem dbl_xor {r b : Nat} (hb : b < 2) : (2 * r) ^^^ b = 2 * r + b := by
 rw [← dbl_or hb]
 apply Nat.eq_of_testBit_eq
 intro i
 rw [Nat.testBit_xor, Nat.testBit_or]
 cases i with
 | zero =>
  have : (2 * r).testBit 0 = false := by simp [Nat.testBit_zero]
  rw [this]; simp
 | succ i =>
  have : b.testBit (i + 1) = false := Nat.testBit_lt_two_pow (Nat.lt_of_lt_of_le hb (by
   have : 2 ^ 1 ≤ 2 ^ (i + 1) := Nat.pow_le_pow_right (by decide) (by omega)
   simpa using this))
  rw [this]; simp
theorem next_T {p r b : Nat} (h1 : 2 ≤ p) (h2 : p < 2 ^ 64) (h : r < 2 ^ deg p) (hb : b < 2) :
 (if (2 * r ||| b) / 2 ^ deg p > 0 then (2 * r ||| b) ^^^ p else (2 * r ||| b)) = T p r ^^^ b := by
 have hd := deg_pos h1 h2
 obtain ⟨e, he⟩ : ∃ e, deg p = e + 1 := ⟨deg p - 1, by omega⟩
 have hp : 2 ^ deg p = 2 * 2 ^ e := by rw [he, Nat.pow_succ, Nat.mul_comm]
 have hq : (2 * r ||| b) / 2 ^ deg p = 2 * r / 2 ^ deg p := by
  rw [dbl_or hb, hp, ← Nat.div_div_eq_div_mul, ← Nat.div_div_eq_div_mul]
  congr 1; omega
 rw [hq, dbl_or hb, ← dbl_xor hb]
 unfold T
 rcases dbl_div h with ⟨h3, h4⟩ | ⟨h3, h4, h5⟩
 ·rw [if_neg (by omega), if_neg (by omega)]
 ·rw [if_pos (by omega), if_pos h3, Nat.xor_assoc, Nat.xor_assoc, Nat.xor_comm b p]
theorem bits_xor {a b : Nat} (ha : a < 2 ^ 62) (hb : b < 2 ^ 62) : Go.bits .xor .i64 (a : Int) (b : Int) = ((a ^^^ b : Nat) : Int) := by
 have hlt : a ^^^ b < 2 ^ 62 := Nat.xor_lt_two_pow ha hb
 have ha' : a % 2 ^ IntKind.i64.bits = a := Nat.mod_eq_of_lt (Nat.lt_of_lt_of_le ha (by decide))
 have hb' : b % 2 ^ IntKind.i64.bits = b := Nat.mod_eq_of_lt (Nat.lt_of_lt_of_le hb (by decide))
 simp only [Go.bits, BitVec.ofInt_natCast, BitVec.toNat_xor, BitVec.toNat_ofNat, ha', hb']
 rw [IntKind.wrap_i64]
 have : ((a ^^^ b : Nat) : Int) < 2 ^ 62 := by exact_mod_cast hlt
 omega
theorem i64_small : ∀ n : Int, 0 ≤ n → n < 2 ^ 62 → IntKind.i64.wrap n = n := by
 intro n h1 h2
 rw [IntKind.wrap_i64]; omega
theorem bits_or {a b : Nat} (ha : a < 2 ^ 62) (hb : b < 2 ^ 62) : Go.bits .or .i64 (a : Int) (b : Int) = ((a ||| b : Nat) : Int) :=
 (bits_nat .i64 62 (by decide) i64_small a b ha hb).2
theorem bits_and {a b : Nat} (ha : a < 2 ^ 62) (hb : b < 2 ^ 62) : Go.bits .and .i64 (a : Int) (b : Int) = ((a &&& b : Nat) : Int) :=
 (bits_nat .i64 62 (by decide) i64_small a b ha hb).1
theorem shr_nat (a d : Nat) (hd : d ≤ 63) : shr .i64 (a : Int) (d : Int) = ((a / 2 ^ d : Nat) : Int) := by
 unfold shr
 have e : min (d : Int).toNat IntKind.i64.bits = d := by
  have : IntKind.i64.bits = 64 := rfl
  rw [this, Int.toNat_natCast]; omega
 rw [e]
 push_cast
 rfl
theorem u64_nat {d : Nat} (h : d < 2 ^ 63) : IntKind.u64.wrap (d : Int) = (d : Int) := by
 have e : IntKind.u64.wrap (d : Int) = (d : Int) % 18446744073709551616 := by simp [IntKind.wrap, IntKind.bits, IntKind.signed]
 rw [e]; omega
def remN (p : Nat) : List UInt8 → Nat → Nat
 | [], r => r
 | c :: cs, r => remN p cs (T p r ^^^ (if c = 49 then 1 else 0))
theorem remN_lt {p : Nat} (h1 : 2 ≤ p) (h2 : p < 2 ^ 64) : ∀ (l : List UInt8) (r : Nat), r < 2 ^ deg p → remN p l r < 2 ^ deg p := by
 intro l
 induction l with
 | nil => intro r hr; exact hr
 | cons c l ih =>
  intro r hr
  have hd := deg_pos h1 h2
  have hp2 : 2 ≤ 2 ^ deg p := by
   have := Nat.pow_le_pow_right (show 0 < 2 by decide) hd
   simpa using this
  refine ih _ (Nat.xor_lt_two_pow (T_lt h1 h2 hr) ?_)
  split <;> omega
def iterT (p : Nat) : Nat → Nat → Nat
 | 0, r => r
 | d + 1, r => iterT p d (T p r)
def dgts (x : Nat) : Nat → List Int
 | 0 => []
 | w + 1 => ((48 + x / 2 ^ w % 2 : Nat) : Int) :: dgts x w
theorem dgts_length (x w : Nat) : (dgts x w).length = w := by
 induction w with
 | zero => rfl
 | succ w ih => simp [dgts, ih]
def checkN (p : Nat) (l : List UInt8) : List Int := dgts (iterT p (deg p) (remN p l 0)) (deg p)
end Go.Proofs.YtbjmbfjbjkhhdaaGreatDoor.Poly
