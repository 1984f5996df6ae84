/- Made small by wip/pack.py: lemmas and contracts that the law's row leans on. -/
import Derived.Test.YtbjmbfjbjkhhdaaGreatDoorZFnTopOfAll11
import Derived.Test.YtbjmbfjbjkhhdaaGreatDoorZFnTopOfAll12
import Derived.Test.YtbjmbfjbjkhhdaaGreatDoorZFnTopOfAll43
import Derived.Lib.SlTrimSet
import Derived.Lib.BitFns
import Derived.Lib.Strings
theorem Go.Proofs.YtbjmbfjbjkhhdaaGreatDoor.PrintWords.sized_ints : type_of% @Go.Proofs.YtbjmbfjbjkhhdaaGreatDoorW.PrintWords.sized_ints := @Go.Proofs.YtbjmbfjbjkhhdaaGreatDoorW.PrintWords.sized_ints
namespace Go.Proofs.YtbjmbfjbjkhhdaaGreatDoor.Base
open Go.RowKit Go.Proofs.YtbjmbfjbjkhhdaaGreatDoorW.PrintWords Go.Proofs.YtbjmbfjbjkhhdaaGreatDoorW.PrintLast Go.Proofs.YtbjmbfjbjkhhdaaGreatDoorW.PrintMore
theorem Ev.succ {α : Type} {g : Nat → Option α} {r : α} (h : Ev (fun k => g (k + 1)) r) : Ev g r := Ev.step (fun _ => rfl) h
theorem Ev.const {α : Type} {g : Option α} {r : α} (h : g = some r) : Ev (fun _ => g) r := ⟨0, fun _ _ => h⟩
theorem Ev.det {α : Type} {g : Nat → Option α} {r s : α} (h : Ev g r) (h' : Ev g s) : r = s := by
 obtain ⟨K, h⟩ := h
 obtain ⟨K', h'⟩ := h'
 have h1 := h (max K K') (Nat.le_max_left _ _)
 have h2 := h' (max K K') (Nat.le_max_right _ _)
 rw [h1] at h2
 exact Option.some.inj h2
theorem Ev.cond {α : Type} {c : Prop} [Decidable c] {g f : Nat → Option α} {r : α} (h1 : c → Ev g r) (h2 : ¬ c → Ev f r) : Ev (fun k => if c then g k else f k) r := by
 by_cases h : c
 ·simp only [h, if_true]; exact h1 h
 ·simp only [h, if_false]; exact h2 h
theorem Ev.ite {α : Type} {c : Prop} [Decidable c] {g f : Nat → Option α} {r s : α} (h1 : c → Ev g r) (h2 : ¬ c → Ev f s) : Ev (fun k => if c then g k else f k) (if c then r else s) := by
 by_cases h : c
 ·simp only [h, if_true]; exact h1 h
 ·simp only [h, if_false]; exact h2 h
theorem w64 {x : Int} (h1 : -9223372036854775808 ≤ x) (h2 : x ≤ 9223372036854775807) : wrap64 x = x := by
 unfold wrap64; omega
theorem w64_add (n : Nat) (m : Nat) (h : n + m ≤ 9223372036854775807) : wrap64 ((n : Int) + (m : Int)) = ((n + m : Nat) : Int) := by
 rw [w64 (by omega) (by omega)]; omega
theorem w64_succ {n : Nat} (h : n < 9223372036854775807) : wrap64 ((n : Int) + 1) = ((n + 1 : Nat) : Int) := by
 rw [w64 (by omega) (by omega)]; omega
theorem rd_nat (xs : List Int) (n : Nat) : rd xs (n : Int) = xs.getD n 0 := by unfold rd; rw [Int.toNat_natCast]
theorem rd_get {xs : List Int} {n : Nat} (h : n < xs.length) : rd xs (n : Int) = xs[n] := by
 rw [rd_nat, List.getD_eq_getElem?_getD, List.getElem?_eq_getElem h]; rfl
theorem drop_rd {xs : List Int} {n : Nat} (h : n < xs.length) : xs.drop n = rd xs (n : Int) :: xs.drop (n + 1) := by
 rw [rd_get h, List.drop_eq_getElem_cons h]
theorem take_rd {xs : List Int} {n : Nat} (h : n < xs.length) : xs.take (n + 1) = xs.take n ++ [rd xs (n : Int)] := by
 rw [rd_get h, List.take_succ_eq_append_getElem h]
theorem bt_nat (s : ByteArray) (n : Nat) (h : n < s.size) : bt s (n : Int) = ((s[n]'h).toNat : Int) := by
 have h' : (n : Int).toNat < s.size := by omega
 rw [← bt_at s (n : Int) h']
 simp only [Int.toNat_natCast]
def inAll (lo hi : Int) (xs : List Int) : Bool := xs.all fun x => decide (lo ≤ x ∧ x ≤ hi)
theorem inAll_cons (lo hi x : Int) (xs : List Int) : inAll lo hi (x :: xs) = (decide (lo ≤ x ∧ x ≤ hi) && inAll lo hi xs) := rfl
def isBitB (b : UInt8) : Bool := b == 48 || b == 49
def bitsB (s : ByteArray) : Bool := s.data.toList.all isBitB && decide (s.size ≤ 400)
theorem isBit_iff (b : UInt8) : isBitB b = true ↔ ((b.toNat : Int) = 48 ∨ (b.toNat : Int) = 49) := by
 unfold isBitB
 rw [Bool.or_eq_true, beq_iff_eq, beq_iff_eq]
 constructor
 ·rintro (rfl | rfl)
  ·exact .inl rfl
  ·exact .inr rfl
 ·rintro (h | h)
  ·exact .inl (UInt8.toNat_inj.1 (by show b.toNat = 48; omega))
  ·exact .inr (UInt8.toNat_inj.1 (by show b.toNat = 49; omega))
theorem size_data (s : ByteArray) : s.data.toList.length = s.size := by rw [Array.length_toList]; rfl
theorem data_get {s : ByteArray} {n : Nat} (h : n < s.size) : s.data.toList[n]'(by rw [size_data]; exact h) = s[n] := by
 rw [Array.getElem_toList]; rfl
theorem drop_data {s : ByteArray} {n : Nat} (h : n < s.size) : s.data.toList.drop n = s[n] :: s.data.toList.drop (n + 1) := by
 rw [List.drop_eq_getElem_cons (by rw [size_data]; exact h), data_get h]
theorem dropWhile_nil {α : Type} (p : α → Bool) (l : List α) : l.dropWhile p = [] ↔ l.all p = true := by
 induction l with
 | nil => simp
 | cons x l ih =>
  rw [List.dropWhile_cons, List.all_cons]
  by_cases h : p x = true
  ·rw [if_pos h, h, Bool.true_and]; exact ih
  ·rw [if_neg h, Bool.eq_false_iff.2 h]; simp
theorem dropWhile_suffix_all {α : Type} (p : α → Bool) (l : List α) : (l.dropWhile p).all p = l.all p := by
 induction l with
 | nil => rfl
 | cons x l ih =>
  rw [List.dropWhile_cons]
  by_cases h : p x = true
  ·rw [if_pos h, ih, List.all_cons, h, Bool.true_and]
  ·rw [if_neg h]
theorem trimS_nil (l cs : List UInt8) : Lib.trimS l cs = [] ↔ l.all (cs.contains ·) = true := by
 unfold Lib.trimS Lib.trimLeftS Lib.trimRightS
 rw [dropWhile_nil, List.all_reverse, dropWhile_suffix_all, List.all_reverse]
theorem contains_bits (b : UInt8) : ([48, 49] : List UInt8).contains b = isBitB b := by
 unfold isBitB
 rw [List.contains_cons, List.contains_cons]
 simp only [List.contains_nil, Bool.or_false]
def place (r c i : Nat) : Nat := i % c * r + i / c
theorem place_lt {r c i : Nat} (h : i < r * c) : place r c i < r * c := by
 have hc : 0 < c := by
  rcases Nat.eq_zero_or_pos c with rfl | h'
  ·simp at h
  ·exact h'
 have h1 : i / c < r := (Nat.div_lt_iff_lt_mul hc).2 h
 have h2 : i % c < c := Nat.mod_lt _ hc
 unfold place
 have h3 : i % c * r + r ≤ c * r := by
  rw [← Nat.succ_mul]; exact Nat.mul_le_mul_right _ h2
 rw [Nat.mul_comm r c]; omega
theorem place_inv {r c i : Nat} (h : i < r * c) : place c r (place r c i) = i := by
 have hc : 0 < c := by
  rcases Nat.eq_zero_or_pos c with rfl | h'
  ·simp at h
  ·exact h'
 have h1 : i / c < r := (Nat.div_lt_iff_lt_mul hc).2 h
 have hr : 0 < r := Nat.lt_of_le_of_lt (Nat.zero_le _) h1
 unfold place
 have e1 : (i % c * r + i / c) % r = i / c := by rw [Nat.mul_comm, Nat.mul_add_mod, Nat.mod_eq_of_lt h1]
 have e2 : (i % c * r + i / c) / r = i % c := by rw [Nat.mul_comm, Nat.mul_add_div hr, Nat.div_eq_of_lt h1, Nat.add_zero]
 rw [e1, e2, Nat.mul_comm]
 exact Nat.div_add_mod i c
def pre (g : Nat → Int) (k : Nat) : List Int := (List.range k).map g
theorem pre_length (g : Nat → Int) (k : Nat) : (pre g k).length = k := by simp [pre]
theorem pre_succ (g : Nat → Int) (k : Nat) : pre g (k + 1) = pre g k ++ [g k] := by simp [pre, List.range_succ]
theorem pre_congr {g f : Nat → Int} {k : Nat} (h : ∀ i, i < k → g i = f i) : pre g k = pre f k := by
 unfold pre
 exact List.map_congr_left fun i hi => h i (List.mem_range.1 hi)
end Go.Proofs.YtbjmbfjbjkhhdaaGreatDoor.Base
