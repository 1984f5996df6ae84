/- A text of this claim, made small by a program of this session (wip/pack.py): lemmas and contracts that the law's row leans on. -/
import Derived.Test.YtabppnjmdlaohaaGreatDoorZFnSynchronised41
namespace Go.Proofs.YtabppnjmdlaohaaGreatDoor.Poly
open Go.RowKit Go.Proofs.YtabppnjmdlaohaaGreatDoorW.PrintWords Go.Proofs.YtabppnjmdlaohaaGreatDoorW.PrintMore Go.Proofs.YtabppnjmdlaohaaGreatDoor.Base
def dg : Nat → Nat → Nat
 | 0, _ => 0
 | f + 1, x => if x ≤ 1 then 0 else dg f (x / 2) + 1
def deg (p : Nat) : Nat := dg 64 p
def T (p r : Nat) : Nat := if 2 * r / 2 ^ deg p = 1 then (2 * r) ^^^ p else 2 * r
theorem i64_small : ∀ n : Int, 0 ≤ n → n < 2 ^ 62 → IntKind.i64.wrap n = n := by
 intro n h1 h2
 rw [IntKind.wrap_i64]; omega
theorem bits_or {a b : Nat} (ha : a < 2 ^ 62) (hb : b < 2 ^ 62) : Go.bits .or .i64 (a : Int) (b : Int) = ((a ||| b : Nat) : Int) :=
 (bits_nat .i64 62 (by decide) i64_small a b ha hb).2
theorem bits_and {a b : Nat} (ha : a < 2 ^ 62) (hb : b < 2 ^ 62) : Go.bits .and .i64 (a : Int) (b : Int) = ((a &&& b : Nat) : Int) :=
 (bits_nat .i64 62 (by decide) i64_small a b ha hb).1
theorem shr_nat (a d : Nat) (hd : d ≤ 63) : shr .i64 (a : Int) (d : Int) = ((a / 2 ^ d : Nat) : Int) := by
 unfold shr
 have e : min (d : Int).toNat IntKind.i64.bits = d := by
  have : IntKind.i64.bits = 64 := rfl
  rw [this, Int.toNat_natCast]; omega
 rw [e]
 push_cast
 rfl
theorem u64_nat {d : Nat} (h : d < 2 ^ 63) : IntKind.u64.wrap (d : Int) = (d : Int) := by
 have e : IntKind.u64.wrap (d : Int) = (d : Int) % 18446744073709551616 := by simp [IntKind.wrap, IntKind.bits, IntKind.signed]
 rw [e]; omega
def castL (l : List Nat) : List Int := l.map fun (x : Nat) => (x : Int)
theorem castL_length (l : List Nat) : (castL l).length = l.length := by simp [castL]
theorem rd_castL {l : List Nat} {n : Nat} (h : n < l.length) : rd (castL l) (n : Int) = ((l[n] : Nat) : Int) := by
 rw [rd_get (by rw [castL_length]; exact h)]
 simp [castL]
end Go.Proofs.YtabppnjmdlaohaaGreatDoor.Poly
