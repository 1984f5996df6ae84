/- Made small by wip/pack.py: lemmas and contracts that the law's row leans on. -/
import Derived.Test.YtbjmbfjbjkhhdaaGreatDoorZFnTopOfAll45
namespace Go.Proofs.YtbjmbfjbjkhhdaaGreatDoor.Lin
open Go.RowKit Go.Proofs.YtbjmbfjbjkhhdaaGreatDoorW.PrintWords Go.Proofs.YtbjmbfjbjkhhdaaGreatDoorW.PrintMore Go.Proofs.YtbjmbfjbjkhhdaaGreatDoor.Base Go.Proofs.YtbjmbfjbjkhhdaaGreatDoor.Poly
theorem dbl_xor2 (a b : Nat) : 2 * (a ^^^ b) = (2 * a) ^^^ (2 * b) := by
 apply Nat.eq_of_testBit_eq
 intro i
 cases i with
 | zero => simp [Nat.testBit_zero]
 | succ i =>
  rw [Nat.testBit_xor, Nat.testBit_succ, Nat.testBit_succ, Nat.testBit_succ, Nat.mul_div_cancel_left _ (by decide), Nat.mul_div_cancel_left _ (by decide), Nat.mul_div_cancel_left _ (by decide), Nat.testBit_xor]
theorem top_testBit {d r : Nat} (h : r < 2 ^ d) : (2 * r / 2 ^ d = 1) ↔ (2 * r).testBit d = true := by
 rw [Nat.testBit_eq_decide_div_mod_eq, decide_eq_true_eq]
 have h1 := dbl_div h
 generalize 2 * r / 2 ^ d = q at h1 ⊢
 omega
theorem T_eq {p r : Nat} (h : r < 2 ^ deg p) : T p r = (2 * r) ^^^ (if (2 * r).testBit (deg p) = true then p else 0) := by
 unfold T
 by_cases c : 2 * r / 2 ^ deg p = 1
 ·rw [if_pos c, if_pos ((top_testBit h).1 c)]
 ·rw [if_neg c, if_neg (fun e => c ((top_testBit h).2 e)), Nat.xor_zero]
theorem T_xor {p a b : Nat} (ha : a < 2 ^ deg p) (hb : b < 2 ^ deg p) : T p (a ^^^ b) = T p a ^^^ T p b := by
 rw [T_eq (Nat.xor_lt_two_pow ha hb), T_eq ha, T_eq hb, dbl_xor2, Nat.testBit_xor]
 generalize 2 * a = x
 generalize 2 * b = y
 have e4 : (x ^^^ p) ^^^ (y ^^^ p) = (x ^^^ y) ^^^ (p ^^^ p) := by ac_rfl
 have e3 : (x ^^^ p) ^^^ y = (x ^^^ y) ^^^ p := by ac_rfl
 have e2 : x ^^^ (y ^^^ p) = (x ^^^ y) ^^^ p := by ac_rfl
 cases x.testBit (deg p) <;> cases y.testBit (deg p)
 ·simp
 ·simp [e2]
 ·simp [e3]
 ·simp [e4]
theorem iterT_lt' {p : Nat} (h1 : 2 ≤ p) (h2 : p < 2 ^ 64) : ∀ (n r : Nat), r < 2 ^ deg p → iterT p n r < 2 ^ deg p := by
 intro n
 induction n with
 | zero => intro r hr; exact hr
 | succ n ih => intro r hr; exact ih _ (T_lt h1 h2 hr)
def dgB (x : Nat) : Nat → List UInt8
 | 0 => []
 | w + 1 => (if x / 2 ^ w % 2 = 1 then 49 else 48) :: dgB x w
theorem dgB_length (x w : Nat) : (dgB x w).length = w := by
 induction w with
 | zero => rfl
 | succ w ih => simp [dgB, ih]
end Go.Proofs.YtbjmbfjbjkhhdaaGreatDoor.Lin
