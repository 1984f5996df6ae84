/- Made small by wip/pack.py: lemmas and contracts that the law's row leans on. -/
import Derived.Test.YtbjmbfjbjkhhdaaGreatDoorZFnTopOfAll42
import Derived.Test.YtbjmbfjbjkhhdaaGreatDoorZFnTopOfAll44
import Derived.Test.YtbjmbfjbjkhhdaaGreatDoorZFnTopOfAll45
import Derived.Test.YtbjmbfjbjkhhdaaGreatDoorZFnTopOfAll46
namespace Go.Proofs.YtbjmbfjbjkhhdaaGreatDoor.Pure
open Go.RowKit Go.Proofs.YtbjmbfjbjkhhdaaGreatDoor.QFnTopOfAll Go.Proofs.YtbjmbfjbjkhhdaaGreatDoor.Base Go.Proofs.YtbjmbfjbjkhhdaaGreatDoorW.PrintWords Go.Proofs.YtbjmbfjbjkhhdaaGreatDoorW.PrintLast Go.Proofs.YtbjmbfjbjkhhdaaGreatDoorW.PrintMore
open Go.Proofs.YtbjmbfjbjkhhdaaGreatDoor.Poly
open Go.Proofs.YtbjmbfjbjkhhdaaGreatDoor.Lin
set_option linter.unusedVariables false
set_option linter.unusedSimpArgs false
def sn (xs : List ByteArray) (n : Nat) : ByteArray := xs.getD n ByteArray.empty
theorem sr_nat (xs : List ByteArray) (n : Nat) : rdOf ByteArray.empty xs (n : Int) = sn xs n := by unfold rdOf sn; rw [Int.toNat_natCast]
theorem sn_get {xs : List ByteArray} {n : Nat} (h : n < xs.length) : sn xs n = xs[n] := by
 unfold sn
 rw [List.getD_eq_getElem?_getD, List.getElem?_eq_getElem h]; rfl
theorem sn_mem {xs : List ByteArray} {n : Nat} (h : n < xs.length) : sn xs n ∈ xs := by rw [sn_get h]; exact List.getElem_mem h
def totS : List ByteArray → Nat
 | [] => 0
 | x :: r => x.size + totS r
theorem totS_mem {xs : List ByteArray} {x : ByteArray} (h : x ∈ xs) : x.size ≤ totS xs := by
 induction xs with
 | nil => exact absurd h (by simp)
 | cons y xs ih =>
  unfold totS
  rcases List.mem_cons.1 h with rfl | h
  ·omega
  ·have := ih h; omega
theorem sn_size (xs : List ByteArray) (n : Nat) : (sn xs n).size ≤ totS xs := by
 by_cases h : n < xs.length
 ·exact totS_mem (sn_mem h)
 ·have e : sn xs n = ByteArray.empty := by
   unfold sn
   rw [List.getD_eq_getElem?_getD, List.getElem?_eq_none (by omega)]; rfl
  rw [e]; exact Nat.zero_le _
instance decMemS : (x : ByteArray) → (xs : List ByteArray) → Decidable (x ∈ xs)
 | x, [] => isFalse (by simp)
 | x, y :: r => if h : x = y then isTrue (by rw [h]; exact List.mem_cons_self) else match decMemS x r with
  | isTrue h2 => isTrue (List.mem_cons_of_mem _ h2)
  | isFalse h2 => isFalse (fun h3 => by rcases List.mem_cons.1 h3 with h3 | h3; exact h h3; exact h2 h3)
def ofL (l : List UInt8) : ByteArray := ⟨l.toArray⟩
theorem ofL_data (l : List UInt8) : (ofL l).data.toList = l := rfl
theorem ofL_list (l : List UInt8) : (ofL l).toList = l := by rw [Lib.toList_data, ofL_data]
theorem ofL_size (l : List UInt8) : (ofL l).size = l.length := by rw [← size_data, ofL_data]
theorem ofL_of (s : ByteArray) : ofL s.data.toList = s := ByteArray.ext (Array.ext' rfl)
theorem ext_data (s : ByteArray) (a b : Nat) : (s.extract a b).data.toList = (s.data.toList.drop a).take (b - a) := by
 rw [ByteArray.data_extract, Array.toList_extract]
theorem ext_ofL (s : ByteArray) (a b : Nat) : s.extract a b = ofL ((s.data.toList.drop a).take (b - a)) := by
 rw [← ext_data, ofL_of]
theorem ofL_ext (l : List UInt8) (a b : Nat) : (ofL l).extract a b = ofL ((l.drop a).take (b - a)) := by rw [ext_ofL, ofL_data]
theorem ofL_app (a b : List UInt8) : ofL a ++ ofL b = ofL (a ++ b) := by
 apply ByteArray.ext
 rw [ByteArray.data_append]
 apply Array.ext'
 rw [Array.toList_append]; rfl
theorem ofL_bt {l : List UInt8} {i : Nat} (h : i < l.length) : bt (ofL l) (i : Int) = ((l[i]).toNat : Int) := by
 rw [bt_nat _ _ (by rw [ofL_size]; exact h)]; rfl
def attach (p : List UInt8) : List (List UInt8) → List (List UInt8)
 | [] => [p]
 | h :: r => (p ++ h) :: r
def splitL (c : UInt8) : List UInt8 → List (List UInt8)
 | [] => [[]]
 | b :: l => if b = c then [] :: splitL c l else attach [b] (splitL c l)
theorem idx_split (c : UInt8) : ∀ l : List UInt8, (Lib.indexByte l c = -1 ∧ splitL c l = [l]) ∨ ∃ n : Nat, Lib.indexByte l c = (n : Int) ∧ n < l.length ∧ splitL c l = l.take n :: splitL c (l.drop (n + 1))
 | [] => .inl ⟨rfl, rfl⟩
 | b :: l => by
  by_cases h : b = c
  ·refine .inr ⟨0, ?_, by rw [List.length_cons]; omega, ?_⟩
   ·simp [Lib.indexByte, h]
   ·show splitL c (b :: l) = [] :: splitL c l
    rw [splitL, if_pos h]
  ·have hb : (b == c) = false := beq_eq_false_iff_ne.2 h
   rcases idx_split c l with ⟨e1, e2⟩ | ⟨n, e1, e2, e3⟩
   ·refine .inl ⟨?_, ?_⟩
    ·simp [Lib.indexByte, hb, e1]
    ·unfold splitL
     rw [if_neg h, e2]; rfl
   ·refine .inr ⟨n + 1, ?_, by rw [List.length_cons]; omega, ?_⟩
    ·have hn : ((n : Int) == -1) = false := beq_eq_false_iff_ne.2 (by omega)
     simp [Lib.indexByte, hb, e1, hn]
    ·show splitL c (b :: l) = (b :: l.take n) :: splitL c (l.drop (n + 1))
     rw [splitL, if_neg h, e3]; rfl
theorem trim_bits (s : ByteArray) (h : s.size ≤ 9223372036854775807) : strings_Trim.f s (⟨#[48, 49]⟩ : ByteArray) = some ⟨(Lib.trimS s.data.toList [48, 49]).toArray⟩ := by
 unfold strings_Trim.f
 rw [if_pos ⟨h, by decide, by decide⟩]
theorem areBits_eq (s : ByteArray) (h : s.size ≤ 9223372036854775807) : impl_areBits.f s = some (s.data.toList.all isBitB) := by
 unfold impl_areBits.f
 rw [trim_bits s h, Option.bind_some]
 congr 1
 have e1 : (⟨(Lib.trimS s.data.toList [48, 49]).toArray⟩ : ByteArray).toList = Lib.trimS s.data.toList [48, 49] := by rw [Lib.toList_data]
 rw [e1, Bool.eq_iff_iff, beq_iff_eq, trimS_nil]
 have e2 : (fun b => ([48, 49] : List UInt8).contains b) = isBitB := funext contains_bits
 rw [e2]
theorem IsBits_eq (s : ByteArray) (h : s.size ≤ 9223372036854775807) : impl_IsBits.f s = some (bitsB s) := by
 unfold impl_IsBits.f bitsB
 by_cases h4 : s.size ≤ 400
 ·have h4' : (s.size : Int) ≤ 400 := by omega
  simp only [h4', if_true, areBits_eq s h, Option.bind_some, h4, decide_true, Bool.and_true]
 ·have h4' : ¬ (s.size : Int) ≤ 400 := by omega
  simp only [h4', if_false, h4, decide_false, Bool.and_false]
theorem within_eq (a b c : Int) : impl_within.f a b c = some (decide (b ≤ a ∧ a ≤ c)) := by
 unfold impl_within.f
 by_cases h : b ≤ a
 ·simp [h, ge_iff_le]
 ·simp [h, ge_iff_le]
theorem areIn_l0 (lo hi : Int) (xs : List Int) (hn : xs.length ≤ 17592186044416) : ∀ d n, n + d = xs.length → Ev (fun k => impl_areIn.l0 k lo hi xs (xs.length : Int) (n : Int)) (inAll lo hi (xs.drop n)) := by
 intro d
 induction d with
 | zero =>
  intro n h
  apply Ev.succ
  have h1 : ¬ ((n : Int) < (xs.length : Int)) := by omega
  have h2 : xs.drop n = [] := List.drop_eq_nil_of_le (by omega)
  simp only [impl_areIn.l0, h1, if_false, h2]
  exact Ev.now true
 | succ d ih =>
  intro n h
  apply Ev.succ
  have h1 : (n : Int) < (xs.length : Int) := by omega
  have h2 : (0 : Int) ≤ (n : Int) := by omega
  have h3 := ih (n + 1) (by omega)
  rw [drop_rd (show n < xs.length by omega), inAll_cons]
  simp only [impl_areIn.l0, h1, h2, if_true, within_eq, Option.bind_some, w64_succ (show n < 9223372036854775807 by omega)]
  by_cases hc : lo ≤ rd xs (n : Int) ∧ rd xs (n : Int) ≤ hi
  ·simp only [hc, decide_true, if_true, Bool.true_and, and_self]; exact h3
  ·simp only [hc, decide_false, Bool.false_and, Bool.false_eq_true, if_false]; exact Ev.now false
theorem areIn_ev (lo hi : Int) (xs : List Int) (hn : xs.length ≤ 17592186044416) : Ev (fun k => impl_areIn.f k xs lo hi) (inAll lo hi xs) := by
 have h := areIn_l0 lo hi xs hn xs.length 0 (by omega)
 exact h
theorem bit_at (x i : Nat) (hx : x < 2 ^ 62) (hi : i ≤ 63) : Go.bits .and .i64 (shr .i64 (x : Int) (i : Int)) 1 = ((x / 2 ^ i % 2 : Nat) : Int) := by
 rw [shr_nat _ _ hi]
 have e := bits_and (a := x / 2 ^ i) (b := 1) (Nat.lt_of_le_of_lt (Nat.div_le_self _ _) hx) (by decide)
 rw [Nat.and_one_is_mod] at e
 exact e
theorem l00In_eq (a b c : Int) : spec_l00In.f a b c = some (decide (b ≤ a ∧ a ≤ c)) := by
 unfold spec_l00In.f
 by_cases h : b ≤ a
 ·simp [h, ge_iff_le]
 ·simp [h, ge_iff_le]
theorem IsCheck_eq (p : Int) : impl_IsCheck.f p = some (decide (2 ≤ p ∧ p ≤ 131071)) := by
 unfold impl_IsCheck.f
 rw [within_eq]; rfl
theorem l08Check_eq (p : Int) : spec_l08Check.f p = some (decide (2 ≤ p ∧ p ≤ 131071)) := by
 unfold spec_l08Check.f
 rw [l00In_eq]; rfl
theorem p_lt64 {p : Nat} (h : p ≤ 131071) : p < 2 ^ 64 := Nat.lt_of_le_of_lt h (by decide)
theorem deg16 {p : Nat} (h1 : 2 ≤ p) (h2 : p ≤ 131071) : deg p ≤ 16 := deg_le (by omega) (p_lt64 h2) (Nat.lt_of_le_of_lt h2 (by decide))
theorem pow16 {p : Nat} (h1 : 2 ≤ p) (h2 : p ≤ 131071) : 2 ^ deg p ≤ 65536 := by
 have := Nat.pow_le_pow_right (show 0 < 2 by decide) (deg16 h1 h2)
 simpa using this
theorem degree_eq {p : Nat} (h1 : 2 ≤ p) (h2 : p ≤ 131071) : impl_degree.f (p : Int) = some (deg p : Int) := by
 unfold impl_degree.f bits_Len64.f
 rw [u64_nat (show p < 2 ^ 63 by exact Nat.lt_of_le_of_lt h2 (by decide)), if_pos ⟨by omega, by omega⟩, Option.bind_some, Int.toNat_natCast, bitLen_deg (by omega) (p_lt64 h2)]
 have := deg16 h1 h2
 rw [w64 (by omega) (by omega)]
 congr 1; omega
theorem times_eq {p r : Nat} (h1 : 2 ≤ p) (h2 : p ≤ 131071) (hr : r < 2 ^ deg p) : impl_times.f (p : Int) (r : Int) = some (T p r : Int) := by
 unfold impl_times.f
 have h16 := deg16 h1 h2
 have hp := pow16 h1 h2
 rw [degree_eq h1 h2, Option.bind_some, if_pos (by omega)]
 have e1 : wrap64 ((r : Int) * 2) = ((2 * r : Nat) : Int) := by rw [w64 (by omega) (by omega)]; omega
 rw [e1, shr_nat _ _ (by omega), bits_xor (by omega) (by omega)]
 unfold T
 by_cases h : 2 * r / 2 ^ deg p = 1
 ·have h' : ((2 * r / 2 ^ deg p : Nat) : Int) = 1 := by rw [h]; rfl
  rw [if_pos h', if_pos h]
 ·have h' : ¬ ((2 * r / 2 ^ deg p : Nat) : Int) = 1 := by omega
  rw [if_neg h', if_neg h]
theorem l08Degree_l0 : ∀ (f X n : Nat), 1 ≤ X → X < 2 ^ f → n + f ≤ 1000 → Ev (fun k => spec_l08Degree.l0 k (X : Int) (n : Int)) ((n + dg f X : Nat) : Int) := by
 intro f
 induction f with
 | zero => intro X n h1 h2; simp at h2; omega
 | succ f ih =>
  intro X n h1 h2 h3
  apply Ev.succ
  unfold dg
  by_cases h : X ≤ 1
  ·have h' : ¬ (X : Int) > 1 := by omega
   simp only [spec_l08Degree.l0, h', if_false, h, if_true, Nat.add_zero]; exact Ev.now _
  ·have h' : (X : Int) > 1 := by omega
   have hp : 2 ^ (f + 1) = 2 * 2 ^ f := by rw [Nat.pow_succ, Nat.mul_comm]
   have e : (X : Int) / 2 = ((X / 2 : Nat) : Int) := by omega
   have h4 := ih (X / 2) (n + 1) (by omega) (by omega) (by omega)
   have e2 : n + 1 + dg f (X / 2) = n + (dg f (X / 2) + 1) := by omega
   rw [e2] at h4
   simp only [spec_l08Degree.l0, h', if_true, h, if_false, e, w64_succ (show n < 9223372036854775807 by omega)]; exact h4
theorem l08Degree_ev {p : Nat} (h1 : 2 ≤ p) (h2 : p ≤ 131071) : Ev (fun k => spec_l08Degree.f k (p : Int)) (deg p : Int) := by
 have h := l08Degree_l0 64 p 0 (by omega) (p_lt64 h2) (by omega)
 rw [Nat.zero_add] at h
 exact h
theorem l08Next_ev {p r b : Nat} (h1 : 2 ≤ p) (h2 : p ≤ 131071) (hr : r < 2 ^ deg p) (hb : b < 2) : Ev (fun k => spec_l08Next.f k (p : Int) (r : Int) (b : Int)) ((T p r ^^^ b : Nat) : Int) := by
 unfold spec_l08Next.f
 refine Ev.bind (l08Degree_ev h1 h2) ?_
 have h16 := deg16 h1 h2
 have hp := pow16 h1 h2
 have e1 : wrap64 ((r : Int) * 2) = ((2 * r : Nat) : Int) := by rw [w64 (by omega) (by omega)]; omega
 have e2 : IntKind.u64.wrap (deg p : Int) = (deg p : Int) := u64_nat (by omega)
 have e3 : (0 : Int) ≤ (deg p : Int) := by omega
 have hor : 2 * r ||| b < 2 ^ 62 := by rw [dbl_or hb]; omega
 have e4 : Go.bits .or .i64 ((2 * r : Nat) : Int) (b : Int) = ((2 * r ||| b : Nat) : Int) := bits_or (by omega) (by omega)
 have e5 := shr_nat (2 * r ||| b) (deg p) (by omega)
 have e6 : Go.bits .xor .i64 ((2 * r ||| b : Nat) : Int) (p : Int) = (((2 * r ||| b) ^^^ p : Nat) : Int) := bits_xor hor (by omega)
 simp only [e1, e2, e3, if_true, e4, e5, e6]
 have hn := next_T h1 (p_lt64 h2) hr hb
 rw [← hn]
 by_cases h : (2 * r ||| b) / 2 ^ deg p > 0
 ·have h' : ((((2 * r ||| b) / 2 ^ deg p : Nat)) : Int) > 0 := by omega
  simp only [h, h', if_true]; exact Ev.now _
 ·have h' : ¬ ((((2 * r ||| b) / 2 ^ deg p : Nat)) : Int) > 0 := by omega
  simp only [h, h', if_false]; exact Ev.now _
theorem remainder_l0 {p : Nat} (h1 : 2 ≤ p) (h2 : p ≤ 131071) (s : ByteArray) (hn : s.size ≤ 1099511627776) (hb : s.data.toList.all isBitB = true) : ∀ (d n r : Nat), n + d = s.size → r < 2 ^ deg p →
 Ev (fun k => impl_remainder.l0 k (p : Int) s (r : Int) (s.size : Int) (n : Int)) ((remN p (s.data.toList.drop n) r : Nat) : Int) ∧ Ev (fun k => spec_l08Rest.l0 k (p : Int) s (r : Int) (n : Int)) ((remN p (s.data.toList.drop n) r : Nat) : Int) := by
 intro d
 induction d with
 | zero =>
  intro n r h hr
  have c1 : ¬ ((n : Int) < (s.size : Int)) := by omega
  have c2 : s.data.toList.drop n = [] := List.drop_eq_nil_of_le (by rw [size_data]; omega)
  rw [c2]
  refine ⟨Ev.succ ?_, Ev.succ ?_⟩
  ·simp only [impl_remainder.l0, c1, if_false, remN]; exact Ev.now _
  ·simp only [spec_l08Rest.l0, c1, if_false, remN]; exact Ev.now _
 | succ d ih =>
  intro n r h hr
  have hl : n < s.size := by omega
  have c1 : (n : Int) < (s.size : Int) := by omega
  have c2 : (0 : Int) ≤ (n : Int) := by omega
  have hT := T_lt h1 (p_lt64 h2) hr
  have hp := pow16 h1 h2
  have hd := deg_pos h1 (p_lt64 h2)
  have hp2 : 2 ≤ 2 ^ deg p := by
   have := Nat.pow_le_pow_right (show 0 < 2 by decide) hd
   simpa using this
  have hw := w64_succ (show n < 9223372036854775807 by omega)
  have hbt := bt_nat s n hl
  have hbit : isBitB (s[n]) = true := by
   rw [List.all_eq_true] at hb
   exact hb _ (by rw [← data_get hl]; exact List.getElem_mem _)
  rw [drop_data hl, remN]
  by_cases c : s[n] = 49
  ·have c3 : bt s (n : Int) = 49 := by rw [hbt, c]; rfl
   have hx : T p r ^^^ 1 < 2 ^ deg p := Nat.xor_lt_two_pow hT (by omega)
   have h3 := ih (n + 1) (T p r ^^^ 1) (by omega) hx
   rw [if_pos c]
   refine ⟨Ev.succ ?_, Ev.succ ?_⟩
   ·have e : Go.bits .xor .i64 (T p r : Int) 1 = ((T p r ^^^ 1 : Nat) : Int) := bits_xor (b := 1) (by omega) (by omega)
    simp only [impl_remainder.l0, c1, c2, if_true, times_eq h1 h2 hr, Option.bind_some, c3, e, hw]; exact h3.1
   ·have e : (49 - 48 : Int) % 256 = ((1 : Nat) : Int) := by decide
    simp only [spec_l08Rest.l0, c1, c2, if_true, c3, e, hw]
    exact Ev.bind (l08Next_ev h1 h2 hr (by omega)) h3.2
  ·have c48 : bt s (n : Int) = 48 := by
    rcases (isBit_iff _).1 hbit with h | h
    ·rw [hbt]; exact h
    ·exact absurd (UInt8.toNat_inj.1 (by show (s[n]).toNat = 49; omega)) c
   have h3 := ih (n + 1) (T p r ^^^ 0) (by omega) (by rw [Nat.xor_zero]; exact hT)
   rw [if_neg c]
   refine ⟨Ev.succ ?_, Ev.succ ?_⟩
   ·rw [Nat.xor_zero] at h3 ⊢
    simp only [impl_remainder.l0, c1, c2, if_true, times_eq h1 h2 hr, Option.bind_some, c48, Int.reduceEq, if_false, hw]; exact h3.1
   ·have e : (48 - 48 : Int) % 256 = ((0 : Nat) : Int) := by decide
    simp only [spec_l08Rest.l0, c1, c2, if_true, c48, e, hw]
    exact Ev.bind (l08Next_ev h1 h2 hr (by omega)) h3.2
theorem remainder_ev {p : Nat} (h1 : 2 ≤ p) (h2 : p ≤ 131071) (s : ByteArray) (hn : s.size ≤ 1099511627776) (hb : s.data.toList.all isBitB = true) :
 Ev (fun k => impl_remainder.f k (p : Int) s) ((remN p s.data.toList 0 : Nat) : Int) ∧ Ev (fun k => spec_l08Rest.f k (p : Int) s) ((remN p s.data.toList 0 : Nat) : Int) :=
 remainder_l0 h1 h2 s hn hb s.size 0 0 (by omega) (Nat.two_pow_pos _)
theorem digits_l0 (x : Nat) (hx : x < 2 ^ 62) : ∀ (w : Nat) (c : List Int), w ≤ 62 → c.length + w ≤ 1000 →
 Ev (fun k => impl_digits.l0 k (x : Int) c ((w : Int) - 1)) (strOfNums (c ++ dgts x w)) := by
 intro w
 induction w with
 | zero =>
  intro c hw hc
  have h1 : ¬ (((0 : Nat) : Int) - 1 ≥ 0) := by omega
  apply Ev.succ
  simp only [impl_digits.l0, h1, if_false, dgts, List.append_nil]; exact Ev.now _
 | succ w ih =>
  intro c hw hc
  have h1 : (((w + 1 : Nat) : Int) - 1) = (w : Int) := by omega
  have h2 : (w : Int) ≥ 0 := by omega
  have h2' : 0 ≤ (w : Int) := by omega
  have h3 : c.length < 140737488355328 := by omega
  have h4 := ih (c ++ [((48 + x / 2 ^ w % 2 : Nat) : Int)]) (by omega) (by simp; omega)
  have e1 := bit_at x w hx (by omega)
  have e2 : (48 + ((x / 2 ^ w % 2 : Nat) : Int)) % 256 = ((48 + x / 2 ^ w % 2 : Nat) : Int) := by omega
  have e3 : wrap64 ((w : Int) - 1) = (w : Int) - 1 := w64 (by omega) (by omega)
  apply Ev.succ
  rw [List.append_assoc] at h4
  simp only [impl_digits.l0, h1, h2, h2', h3, if_true, e1, e2, e3, dgts]
  exact h4
theorem digits_ev (x w : Nat) (hx : x < 2 ^ 62) (hw : w ≤ 62) : Ev (fun k => impl_digits.f k (x : Int) (w : Int)) (strOfNums (dgts x w)) := by
 unfold impl_digits.f
 have e : wrap64 ((w : Int) - 1) = (w : Int) - 1 := w64 (by omega) (by omega)
 rw [e]
 exact digits_l0 x hx w [] hw (by simp; omega)
theorem l08Sum_l1 (x : Nat) (hx : x < 2 ^ 62) : ∀ (w : Nat) (c : List Int), w ≤ 62 → c.length + w ≤ 1000 →
 Ev (fun k => spec_l08Sum.l1 k (x : Int) c ((w : Int) - 1)) (strOfNums (c ++ dgts x w)) := by
 intro w
 induction w with
 | zero =>
  intro c hw hc
  have h1 : ¬ (((0 : Nat) : Int) - 1 ≥ 0) := by omega
  apply Ev.succ
  simp only [spec_l08Sum.l1, h1, if_false, dgts, List.append_nil]; exact Ev.now _
 | succ w ih =>
  intro c hw hc
  have h1 : (((w + 1 : Nat) : Int) - 1) = (w : Int) := by omega
  have h2 : (w : Int) ≥ 0 := by omega
  have h2' : 0 ≤ (w : Int) := by omega
  have h3 : c.length < 140737488355328 := by omega
  have h4 := ih (c ++ [((48 + x / 2 ^ w % 2 : Nat) : Int)]) (by omega) (by simp; omega)
  have e0 : IntKind.u64.wrap (w : Int) = (w : Int) := u64_nat (by omega)
  have e1 := bit_at x w hx (by omega)
  have e2 : wrap64 (48 + ((x / 2 ^ w % 2 : Nat) : Int)) % 256 = ((48 + x / 2 ^ w % 2 : Nat) : Int) := by rw [w64 (by omega) (by omega)]; omega
  have e3 : wrap64 ((w : Int) - 1) = (w : Int) - 1 := w64 (by omega) (by omega)
  apply Ev.succ
  rw [List.append_assoc] at h4
  simp only [spec_l08Sum.l1, h1, h2, h2', h3, if_true, e0, e1, e2, e3, dgts]
  exact h4
theorem checkBits_l0 {p : Nat} (h1 : 2 ≤ p) (h2 : p ≤ 131071) : ∀ (d n r : Nat), n + d = deg p → r < 2 ^ deg p →
 Ev (fun k => impl_checkBits.l0 k (p : Int) (r : Int) (deg p : Int) (n : Int)) (strOfNums (dgts (iterT p d r) (deg p))) ∧
 Ev (fun k => spec_l08Sum.l0 k (p : Int) (deg p : Int) (r : Int) (n : Int)) (strOfNums (dgts (iterT p d r) (deg p))) := by
 have h16 := deg16 h1 h2
 have hp := pow16 h1 h2
 intro d
 induction d with
 | zero =>
  intro n r h hr
  have c1 : ¬ ((n : Int) < (deg p : Int)) := by omega
  have e : wrap64 ((deg p : Int) - 1) = (deg p : Int) - 1 := w64 (by omega) (by omega)
  refine ⟨Ev.succ ?_, Ev.succ ?_⟩
  ·simp only [impl_checkBits.l0, c1, if_false, degree_eq h1 h2, Option.bind_some, iterT]
   exact Ev.bind (digits_ev r (deg p) (by omega) (by omega)) (Ev.now _)
  ·simp only [spec_l08Sum.l0, c1, if_false, e, iterT]
   exact l08Sum_l1 r (by omega) (deg p) [] (by omega) (by simp; omega)
 | succ d ih =>
  intro n r h hr
  have c1 : (n : Int) < (deg p : Int) := by omega
  have hT := T_lt h1 (p_lt64 h2) hr
  have h3 := ih (n + 1) (T p r) (by omega) hT
  have hw := w64_succ (show n < 9223372036854775807 by omega)
  refine ⟨Ev.succ ?_, Ev.succ ?_⟩
  ·simp only [impl_checkBits.l0, c1, if_true, times_eq h1 h2 hr, Option.bind_some, hw, iterT]; exact h3.1
  ·simp only [spec_l08Sum.l0, c1, if_true, hw, iterT]
   have hx := l08Next_ev (b := 0) h1 h2 hr (by omega)
   rw [Nat.xor_zero] at hx
   exact Ev.bind hx h3.2
theorem checkBits_ev {p : Nat} (h1 : 2 ≤ p) (h2 : p ≤ 131071) (s : ByteArray) (hn : s.size ≤ 1099511627776) (hb : s.data.toList.all isBitB = true) :
 Ev (fun k => impl_checkBits.f k (p : Int) s) (strOfNums (checkN p s.data.toList)) ∧ Ev (fun k => spec_l08Sum.f k (p : Int) s) (strOfNums (checkN p s.data.toList)) := by
 obtain ⟨r1, r2⟩ := remainder_ev h1 h2 s hn hb
 have hr := remN_lt h1 (p_lt64 h2) s.data.toList 0 (Nat.two_pow_pos _)
 obtain ⟨c1, c2⟩ := checkBits_l0 h1 h2 (deg p) 0 _ (by omega) hr
 unfold impl_checkBits.f spec_l08Sum.f
 refine ⟨Ev.bind r1 ?_, ?_⟩
 ·simp only [degree_eq h1 h2, Option.bind_some]; exact c1
 ·exact Ev.bind (l08Degree_ev h1 h2) (Ev.bind r2 c2)
theorem str_size (l : List Int) : (strOfNums l).size = l.length := by
 show (strOfNums l).data.size = _
 simp [strOfNums]
theorem bt_str {xs : List Int} {k : Nat} (hk : k < xs.length) (h : 0 ≤ xs[k] ∧ xs[k] ≤ 255) : bt (strOfNums xs) (k : Int) = xs[k] := by
 have hk' : k < (strOfNums xs).size := by rw [str_size]; exact hk
 rw [bt_nat _ _ hk']
 have e : (strOfNums xs)[k]'hk' = UInt8.ofNat (xs[k]).toNat := by
  show (strOfNums xs).data[k]'_ = _
  simp [strOfNums]
 rw [e, UInt8.toNat_ofNat']
 omega
theorem all_bits_iff (s : ByteArray) : s.data.toList.all isBitB = true ↔ ∀ k : Nat, k < s.size → (bt s (k : Int) = 48 ∨ bt s (k : Int) = 49) := by
 rw [List.all_eq_true]
 constructor
 ·intro h k hk
  rw [bt_nat s k hk]
  refine (isBit_iff _).1 (h _ ?_)
  rw [← data_get hk]; exact List.getElem_mem _
 ·intro h b hb
  obtain ⟨k, hk, rfl⟩ := List.mem_iff_getElem.1 hb
  have hk' : k < s.size := by rw [← size_data]; exact hk
  rw [isBit_iff, data_get hk', ← bt_nat s k hk']
  exact h k hk'
theorem str_ext {s t : ByteArray} (h : s.size = t.size) (h2 : ∀ k : Nat, k < s.size → bt s (k : Int) = bt t (k : Int)) : s = t := by
 apply ByteArray.ext
 apply Array.ext
 ·exact h
 ·intro k h3 h4
  have e := h2 k h3
  rw [bt_nat s k h3, bt_nat t k h4] at e
  exact UInt8.toNat_inj.1 (by exact_mod_cast e)
def bitU (c : UInt8) : Prop := c = 48 ∨ c = 49
def xorB : List UInt8 → List UInt8 → List UInt8
 | x :: a, y :: b => (if x = y then 48 else 49) :: xorB a b
 | _, _ => []
theorem str_same {s t : ByteArray} (h : s.data.toList = t.data.toList) : s = t := ByteArray.ext (Array.ext' h)
theorem xor_l0 (a b : ByteArray) (h : a.size = b.size) (hs : a.size ≤ 1000) : ∀ (d n : Nat) (o : ByteArray), n + d = a.size → o.size ≤ n →
 Ev (fun k => impl_xorBits.l0 k a b o (n : Int)) (o ++ (⟨(xorB (a.data.toList.drop n) (b.data.toList.drop n)).toArray⟩ : ByteArray)) := by
 intro d
 induction d with
 | zero =>
  intro n o hd ho
  have c1 : ¬ (n : Int) < (a.size : Int) := by omega
  have e : a.data.toList.drop n = [] := List.drop_eq_nil_of_le (by rw [size_data]; omega)
  rw [e]
  have e2 : o ++ (⟨(xorB [] (b.data.toList.drop n)).toArray⟩ : ByteArray) = o := by
   apply str_same
   rw [ByteArray.data_append, Array.toList_append]
   simp [xorB]
  rw [e2]
  apply Ev.succ
  simp only [impl_xorBits.l0]
  exact Ev.cond (fun h' => absurd h' c1) (fun _ => Ev.now _)
 | succ d ih =>
  intro n o hd ho
  have hn : n < a.size := by omega
  have hn2 : n < b.size := by omega
  have c1 : (n : Int) < (a.size : Int) := by omega
  have c2 : (0 : Int) ≤ (n : Int) := by omega
  have c3 : (n : Int) < (b.size : Int) := by omega
  have e1 : impl_bitOf.f (bt a (n : Int) != bt b (n : Int)) = some (⟨#[if a[n] = b[n] then 48 else 49]⟩ : ByteArray) := by
   rw [bt_nat a n hn, bt_nat b n hn2]
   unfold impl_bitOf.f
   by_cases e : a[n] = b[n]
   ·rw [if_pos e, e, bne_self_eq_false]; rfl
   ·have e3 : (((a[n]).toNat : Int) != ((b[n]).toNat : Int)) = true := bne_iff_ne.2 (fun e4 => e (UInt8.toNat_inj.1 (by omega)))
    rw [if_neg e, e3]; rfl
  have hsz : (⟨#[if a[n] = b[n] then (48 : UInt8) else 49]⟩ : ByteArray).size = 1 := rfl
  have h3 := ih (n + 1) (o ++ (⟨#[if a[n] = b[n] then 48 else 49]⟩ : ByteArray)) (by omega) (by rw [ByteArray.size_append, hsz]; omega)
  have e5 : o ++ (⟨#[if a[n] = b[n] then 48 else 49]⟩ : ByteArray) ++ (⟨(xorB (a.data.toList.drop (n + 1)) (b.data.toList.drop (n + 1))).toArray⟩ : ByteArray) = o ++ (⟨(xorB (a.data.toList.drop n) (b.data.toList.drop n)).toArray⟩ : ByteArray) := by
   rw [drop_data hn, drop_data hn2]
   apply str_same
   simp only [xorB, ByteArray.data_append, Array.toList_append, List.append_assoc]
   rfl
  rw [e5] at h3
  apply Ev.succ
  simp only [impl_xorBits.l0]
  refine Ev.cond (fun _ => ?_) (fun h' => absurd c1 h')
  refine Ev.cond (fun _ => ?_) (fun h' => absurd c2 h')
  refine Ev.cond (fun _ => ?_) (fun h' => absurd c3 h')
  refine Ev.bind (Ev.const e1) ?_
  refine Ev.cond (fun _ => ?_) (fun h' => absurd (show o.size + (⟨#[if a[n] = b[n] then (48 : UInt8) else 49]⟩ : ByteArray).size ≤ 140737488355328 by rw [hsz]; omega) h')
  rw [w64_succ (show n < 9223372036854775807 by omega)]
  exact h3
def flipU (c : UInt8) : UInt8 := if c = 49 then 48 else 49
def oppS (t : ByteArray) : ByteArray := ⟨(t.data.toList.map flipU).toArray⟩
theorem oppS_data (t : ByteArray) : (oppS t).data.toList = t.data.toList.map flipU := rfl
theorem oppS_size (t : ByteArray) : (oppS t).size = t.size := by rw [← size_data, oppS_data, List.length_map, size_data]
theorem xorB_rep : ∀ l : List UInt8, xorB l (Lib.repeatL [49] l.length) = l.map flipU
 | [] => rfl
 | c :: l => by
  have ih := xorB_rep l
  show xorB (c :: l) (49 :: Lib.repeatL [49] l.length) = _
  rw [xorB, ih]; rfl
theorem opposite_ev (t : ByteArray) (h : t.size ≤ 1000) : Ev (fun k => impl_opposite.f k t) (oppS t) := by
 have hl : (Lib.repeatL [49] t.size).length = t.size := by rw [Lib.repeatL_length]; simp
 have hz : (⟨(Lib.repeatL [49] t.size).toArray⟩ : ByteArray).size = t.size := by rw [← size_data]; exact hl
 have e : strings_Repeat.f (⟨#[49]⟩ : ByteArray) (t.size : Int) = some ⟨(Lib.repeatL [49] t.size).toArray⟩ := by
  unfold strings_Repeat.f
  have c0 : (⟨#[49]⟩ : ByteArray).size = 1 := rfl
  rw [if_pos ⟨by omega, by omega, by rw [c0, Int.toNat_natCast]; omega⟩, Int.toNat_natCast]
 have h3 := xor_l0 t (⟨(Lib.repeatL [49] t.size).toArray⟩ : ByteArray) hz.symm (by omega) t.size 0 (⟨#[]⟩ : ByteArray) (by omega) (Nat.le_refl _)
 have e2 : (⟨#[]⟩ : ByteArray) ++ (⟨(xorB (t.data.toList.drop 0) ((⟨(Lib.repeatL [49] t.size).toArray⟩ : ByteArray).data.toList.drop 0)).toArray⟩ : ByteArray) = oppS t := by
  apply str_same
  rw [ByteArray.data_append, Array.toList_append, List.drop_zero, List.drop_zero, oppS_data, ← xorB_rep, size_data]; rfl
 rw [e2] at h3
 unfold impl_opposite.f impl_xorBits.f
 exact Ev.bind (Ev.const e) (Ev.bind h3 (Ev.now _))
def decS (n : Int) : ByteArray := ofL (Lib.itoa n)
theorem Decimal_eq (n : Int) (h1 : -9223372036854775808 ≤ n) (h2 : n ≤ 9223372036854775807) : impl_Decimal.f n = some (decS n) := by
 unfold impl_Decimal.f strconv_FormatInt.f
 rw [if_pos ⟨rfl, h1, h2⟩]; rfl
def TP {α : Type} (g : Nat → Option α) (Q : α → Prop) : Prop := ∃ r, Ev g r ∧ Q r
theorem TP.ret {α : Type} {r : α} {Q : α → Prop} (h : Q r) : TP (fun _ => some r) Q := ⟨r, Ev.now _, h⟩
theorem TP.of {α : Type} {g : Nat → Option α} {r : α} {Q : α → Prop} (h : Ev g r) (q : Q r) : TP g Q := ⟨r, h, q⟩
theorem TP.bind {α β : Type} {g : Nat → Option α} {f : Nat → α → Option β} {Q : α → Prop} {R : β → Prop} (h : TP g Q) (hf : ∀ r, Q r → TP (fun k => f k r) R) : TP (fun k => (g k).bind (f k)) R := by
 obtain ⟨r, h1, h2⟩ := h
 obtain ⟨s, h3, h4⟩ := hf r h2
 exact ⟨s, Ev.bind h1 h3, h4⟩
theorem TP.ev {α β : Type} {g : Nat → Option α} {f : Nat → α → Option β} {r : α} {R : β → Prop} (h : Ev g r) (hf : TP (fun k => f k r) R) : TP (fun k => (g k).bind (f k)) R := by
 obtain ⟨s, h3, h4⟩ := hf
 exact ⟨s, Ev.bind h h3, h4⟩
theorem TP.some {α β : Type} {g : Option α} {f : Nat → α → Option β} {r : α} {R : β → Prop} (h : g = Option.some r) (hf : TP (fun k => f k r) R) : TP (fun k => g.bind (f k)) R := TP.ev (Ev.const h) hf
theorem TP.cond {α : Type} {c : Prop} [Decidable c] {g f : Nat → Option α} {Q : α → Prop} (h1 : c → TP g Q) (h2 : ¬ c → TP f Q) : TP (fun k => if c then g k else f k) Q := by
 by_cases h : c
 ·simp only [h, if_true]; exact h1 h
 ·simp only [h, if_false]; exact h2 h
theorem TP.yes {α : Type} {c : Prop} [Decidable c] {g f : Nat → Option α} {Q : α → Prop} (hc : c) (h : TP g Q) : TP (fun k => if c then g k else f k) Q := TP.cond (fun _ => h) (fun h' => absurd hc h')
theorem TP.no {α : Type} {c : Prop} [Decidable c] {g f : Nat → Option α} {Q : α → Prop} (hc : ¬ c) (h : TP f Q) : TP (fun k => if c then g k else f k) Q := TP.cond (fun h' => absurd h' hc) (fun _ => h)
theorem TP.succ {α : Type} {g : Nat → Option α} {Q : α → Prop} (h : TP (fun k => g (k + 1)) Q) : TP g Q := by
 obtain ⟨r, h1, h2⟩ := h
 exact ⟨r, Ev.succ h1, h2⟩
theorem TP.mono {α : Type} {g : Nat → Option α} {Q R : α → Prop} (h : TP g Q) (hq : ∀ r, Q r → R r) : TP g R := by
 obtain ⟨r, h1, h2⟩ := h
 exact ⟨r, h1, hq r h2⟩
theorem mkT_same {a : ByteArray} {l : List UInt8} (h : a.data.toList = l) : a = ofL l := by rw [← h, ofL_of]
theorem indexB_one (s : ByteArray) (c : UInt8) : Lib.indexB s (⟨#[c]⟩ : ByteArray) = Lib.indexByte s.data.toList c := Lib.index_one _ _
theorem splitB_eq (c : UInt8) : ∀ (k : Nat) (s : ByteArray), Lib.countB s (⟨#[c]⟩ : ByteArray) = k → Lib.splitB (⟨#[c]⟩ : ByteArray) 0 k s = (splitL c s.data.toList).map ofL := by
 have h1 : 1 ≤ (⟨#[c]⟩ : ByteArray).size := Nat.le_refl _
 intro k
 induction k with
 | zero =>
  intro s hk
  rcases idx_split c s.data.toList with ⟨e1, e2⟩ | ⟨n, e1, _, _⟩
  ·rw [e2, Lib.splitB_zero, List.map_cons, List.map_nil, ofL_of]
  ·have := Lib.countB_hit s (⟨#[c]⟩ : ByteArray) n h1 ((indexB_one s c).trans e1)
   omega
 | succ k ih =>
  intro s hk
  rcases idx_split c s.data.toList with ⟨e1, e2⟩ | ⟨n, e1, e2, e3⟩
  ·have := Lib.countB_miss s (⟨#[c]⟩ : ByteArray) ((indexB_one s c).trans e1)
   omega
  ·have hx := (indexB_one s c).trans e1
   have h2 := Lib.countB_hit s (⟨#[c]⟩ : ByteArray) n h1 hx
   have hz : (⟨#[c]⟩ : ByteArray).size = 1 := rfl
   rw [Lib.splitB_hit _ 0 k s n hx, e3, List.map_cons, hz, ih (s.extract (n + 1) s.size) (by rw [hz] at h2; omega)]
   have ea : (s.extract (n + 1) s.size).data.toList = s.data.toList.drop (n + 1) := by
    rw [ext_data, List.take_of_length_le (by rw [List.length_drop, size_data]; omega)]
   have eb : s.extract 0 (n + 0) = ofL (s.data.toList.take n) := mkT_same (by simp [ByteArray.data_extract])
   rw [ea, eb]
theorem split_eq (s : ByteArray) (c : UInt8) (h : s.size < 4294967281) : strings_Split.f s (⟨#[c]⟩ : ByteArray) = some ((splitL c s.data.toList).map ofL) := by
 unfold strings_Split.f
 show (if s.size < 4294967281 then some (splitT s (⟨#[c]⟩ : ByteArray)) else none) = _
 rw [if_pos h]
 exact congrArg some (splitB_eq c _ s rfl)
theorem readDec_eq (s : ByteArray) (h : s.size ≤ 1000000) : impl_ReadDecimal.f s = some (rdInt s) := by
 unfold impl_ReadDecimal.f impl_readInteger.f
 rw [if_pos ⟨rfl, by omega⟩]; rfl
theorem clone_eq (xs : List ByteArray) (h : xs.length ≤ 1000000) : slices_Clone_string_string.f xs = some xs := by
 unfold slices_Clone_string_string.f
 rw [if_pos (by omega)]
theorem l08Block_eq (a b : Int) : spec_l08Block.f a b = some (decide (1 ≤ a ∧ a ≤ 20) && decide (1 ≤ b ∧ b ≤ 20)) := by
 unfold spec_l08Block.f
 simp only [l00In_eq, Option.bind_some]
 by_cases h : 1 ≤ a ∧ a ≤ 20
 ·simp [h]
 ·simp [h]
theorem areSides_eq (a b : Int) : impl_areSides.f a b = some (decide (1 ≤ a ∧ a ≤ 20) && decide (1 ≤ b ∧ b ≤ 20)) := by
 unfold impl_areSides.f
 simp only [within_eq, Option.bind_some]
 by_cases h : 1 ≤ a ∧ a ≤ 20
 ·simp [h]
 ·simp [h]
theorem l01Bits_l0 (s : ByteArray) (hn : s.size ≤ 1099511627776) : ∀ d n, n + d = s.size → Ev (fun k => spec_l01Bits.l0 k s (n : Int)) ((s.data.toList.drop n).all isBitB && decide (s.size ≤ 400)) := by
 intro d
 induction d with
 | zero =>
  intro n h
  apply Ev.succ
  have h1 : ¬ ((n : Int) < (s.size : Int)) := by omega
  have h2 : s.data.toList.drop n = [] := List.drop_eq_nil_of_le (by rw [size_data]; omega)
  have h3 : ((s.size : Int) ≤ 400) = (s.size ≤ 400) := propext ⟨fun h => by omega, fun h => by omega⟩
  simp only [spec_l01Bits.l0, h1, if_false, h2, h3]
  exact Ev.now _
 | succ d ih =>
  intro n h
  apply Ev.succ
  have hl : n < s.size := by omega
  have h1 : (n : Int) < (s.size : Int) := by omega
  have h2 : (0 : Int) ≤ (n : Int) := by omega
  have h3 := ih (n + 1) (by omega)
  rw [drop_data hl, List.all_cons]
  have hb := bt_nat s n hl
  have hi := isBit_iff (s[n])
  rw [← hb] at hi
  simp only [spec_l01Bits.l0, h1, h2, if_true, w64_succ (show n < 9223372036854775807 by omega)]
  by_cases c1 : bt s (n : Int) = 48
  ·rw [hi.2 (.inl c1), Bool.true_and]
   simp only [c1, if_true]; exact h3
  ·by_cases c2 : bt s (n : Int) = 49
   ·rw [hi.2 (.inr c2), Bool.true_and]
    simp only [c2, if_true, Int.reduceEq, if_false]; exact h3
   ·have hf : isBitB (s[n]) = false := by
     rw [Bool.eq_false_iff]; intro hc
     rcases hi.1 hc with hc | hc
     ·exact c1 hc
     ·exact c2 hc
    simp only [hf, Bool.false_and, c1, c2, if_false]
    exact Ev.now _
theorem l01Bits_ev (s : ByteArray) (hn : s.size ≤ 1099511627776) : Ev (fun k => spec_l01Bits.f k s) (bitsB s) := by
 have h := l01Bits_l0 s hn s.size 0 (by omega)
 exact h
def fitsB (a b : Int) (s : ByteArray) : Bool := (decide (1 ≤ a ∧ a ≤ 20) && decide (1 ≤ b ∧ b ≤ 20)) && bitsB s && ((s.size : Int) == a * b)
theorem l08Fits_ev (a b : Int) (s : ByteArray) (hn : s.size ≤ 1099511627776) : Ev (fun k => spec_l08Fits.f k a b s) (fitsB a b s) := by
 unfold spec_l08Fits.f fitsB
 simp only [l08Block_eq, Option.bind_some]
 by_cases h1 : 1 ≤ a ∧ a ≤ 20
 ·by_cases h2 : 1 ≤ b ∧ b ≤ 20
  ·have hp : a * b ≤ 400 := by have := Int.mul_le_mul h1.2 h2.2 (by omega) (by omega); omega
   have hp0 : 0 ≤ a * b := Int.mul_nonneg (by omega) (by omega)
   have hw : wrap64 (a * b) = a * b := w64 (by omega) (by omega)
   simp only [h1, h2, and_self, decide_true, Bool.and_self, if_true, Bool.true_and, hw]
   refine Ev.bind (l01Bits_ev s hn) ?_
   by_cases h3 : bitsB s = true
   ·simp only [h3, if_true, Bool.true_and]; exact Ev.now _
   ·simp only [h3, if_false, Bool.false_and]; exact Ev.now _
  ·simp only [h2, decide_false, Bool.and_false, Bool.false_and, Bool.false_eq_true, if_false]; exact Ev.now _
 ·simp only [h1, decide_false, Bool.false_and, Bool.false_eq_true, if_false]; exact Ev.now _
theorem fitsB_nat {a b : Int} {s : ByteArray} (h : fitsB a b s = true) : ∃ r c : Nat, a = r ∧ b = c ∧ 1 ≤ r ∧ r ≤ 20 ∧ 1 ≤ c ∧ c ≤ 20 ∧ s.size = r * c ∧ r * c ≤ 400 ∧ s.data.toList.all isBitB = true := by
 unfold fitsB at h
 simp only [Bool.and_eq_true, decide_eq_true_eq, beq_iff_eq] at h
 obtain ⟨⟨⟨h1, h2⟩, h3⟩, h4⟩ := h
 obtain ⟨r, rfl⟩ := Int.eq_ofNat_of_zero_le (show 0 ≤ a by omega)
 obtain ⟨c, rfl⟩ := Int.eq_ofNat_of_zero_le (show 0 ≤ b by omega)
 have hp : r * c ≤ 20 * 20 := Nat.mul_le_mul (by omega) (by omega)
 unfold bitsB at h3
 rw [Bool.and_eq_true] at h3
 exact ⟨r, c, rfl, rfl, by omega, by omega, by omega, by omega, by exact_mod_cast h4, hp, h3.1⟩
theorem isBlock_eq (a b : Int) (s : ByteArray) (h : s.size ≤ 1099511627776) : impl_isBlock.f a b s = some (fitsB a b s) := by
 unfold impl_isBlock.f fitsB
 simp only [areSides_eq, Option.bind_some, IsBits_eq s (by omega)]
 by_cases h1 : 1 ≤ a ∧ a ≤ 20
 ·by_cases h2 : 1 ≤ b ∧ b ≤ 20
  ·have hp : a * b ≤ 400 := by have := Int.mul_le_mul h1.2 h2.2 (by omega) (by omega); omega
   have hp0 : 0 ≤ a * b := Int.mul_nonneg (by omega) (by omega)
   have hw : wrap64 (a * b) = a * b := w64 (by omega) (by omega)
   simp only [h1, h2, and_self, decide_true, Bool.and_self, if_true, Bool.true_and, hw]
   by_cases h3 : bitsB s = true
   ·simp only [h3, if_true, Bool.true_and]
   ·simp only [h3, if_false, Bool.false_and, Bool.false_eq_true]
  ·simp only [h2, decide_false, Bool.and_false, Bool.false_and, Bool.false_eq_true, if_false]
 ·simp only [h1, decide_false, Bool.false_and, Bool.false_eq_true, if_false]
theorem behindPlace_eq {r c i : Nat} (hc : 1 ≤ c) (hr : r ≤ 20) (hc2 : c ≤ 20) (hi : i < r * c) (hb : r * c ≤ 400) : impl_behindPlace.f (r : Int) (c : Int) (i : Int) = some (place r c i : Int) := by
 unfold impl_behindPlace.f
 rw [if_neg (by omega)]
 have e1 : Int.tmod (i : Int) (c : Int) = ((i % c : Nat) : Int) := by rw [Int.tmod_eq_emod_of_nonneg (by omega)]; rfl
 have e2 : Int.tdiv (i : Int) (c : Int) = ((i / c : Nat) : Int) := by rw [Int.tdiv_eq_ediv_of_nonneg (by omega)]; rfl
 have e3 : ((i % c : Nat) : Int) * (r : Int) = ((i % c * r : Nat) : Int) := by push_cast; rfl
 have hpl := place_lt hi
 unfold place at hpl ⊢
 rw [e1, e2, e3]
 clear e1 e2 e3
 generalize i % c * r = m at hpl ⊢
 generalize i / c = q at hpl ⊢
 have w1 : wrap64 (m : Int) = (m : Int) := w64 (by omega) (by omega)
 have w2 : wrap64 (q : Int) = (q : Int) := w64 (by omega) (by omega)
 rw [w1, w2, w64 (by omega) (by omega)]
 congr 1
def fillN (s : ByteArray) (r c i : Nat) : List Int := pre (fun k => if place c r k < i then bt s (place c r k : Nat) else 0) (r * c)
theorem fill_step (s : ByteArray) (r c i : Nat) (hi : i < r * c) : (fillN s r c i).set (place r c i) (bt s (i : Nat)) = fillN s r c (i + 1) := by
 apply List.ext_getElem
 ·simp [fillN, pre_length]
 ·intro k h1 h2
  have hk : k < r * c := by simpa [fillN, pre_length] using h2
  have hk' : k < c * r := by rw [Nat.mul_comm]; exact hk
  rw [List.getElem_set]
  simp only [fillN, pre, List.getElem_map, List.getElem_range]
  by_cases e : place r c i = k
  ·rw [if_pos e]
   have e2 : place c r k = i := by rw [← e]; exact place_inv hi
   rw [e2, if_pos (by omega)]
  ·rw [if_neg e]
   have hne : place c r k ≠ i := fun e2 => e (by rw [← e2]; exact place_inv hk')
   by_cases hlt : place c r k < i
   ·rw [if_pos hlt, if_pos (by omega)]
   ·rw [if_neg hlt, if_neg (by omega)]
theorem BI_l0 (r c : Nat) (s : ByteArray) (hr : 1 ≤ r) (hr2 : r ≤ 20) (hc : 1 ≤ c) (hc2 : c ≤ 20) (hs : s.size = r * c) (hb : r * c ≤ 400) : ∀ (d i : Nat), i + d = r * c →
 Ev (fun k => impl_BlockInterleave.l0 k (r : Int) (c : Int) s (fillN s r c i) (s.size : Int) (i : Int)) (strOfNums (pre (fun k => bt s (place c r k : Nat)) (r * c)), true) := by
 intro d
 induction d with
 | zero =>
  intro i h
  have c1 : ¬ ((i : Int) < (s.size : Int)) := by omega
  have e : fillN s r c i = pre (fun k => bt s (place c r k : Nat)) (r * c) := by
   unfold fillN
   apply pre_congr
   intro k hk
   have := place_lt (r := c) (c := r) (i := k) (by rw [Nat.mul_comm]; exact hk)
   rw [Nat.mul_comm c r] at this
   show (if place c r k < i then _ else _) = _
   rw [if_pos (by omega)]
  apply Ev.succ
  simp only [impl_BlockInterleave.l0, c1, if_false, e]
  exact Ev.now _
 | succ d ih =>
  intro i h
  have hi : i < r * c := by omega
  have c1 : (i : Int) < (s.size : Int) := by omega
  have c2 : (0 : Int) ≤ (i : Int) := by omega
  have c3 : (0 : Int) ≤ (place r c i : Int) := by omega
  have hpl := place_lt hi
  have c4 : (place r c i : Int) < ((fillN s r c i).length : Int) := by unfold fillN; rw [pre_length]; omega
  have h3 := ih (i + 1) (by omega)
  rw [← fill_step s r c i hi] at h3
  apply Ev.succ
  simp only [impl_BlockInterleave.l0]
  refine Ev.cond (fun _ => ?_) (fun h' => absurd c1 h')
  refine Ev.bind (Ev.const (behindPlace_eq hc hr2 hc2 hi hb)) ?_
  refine Ev.cond (fun _ => ?_) (fun h' => absurd c2 h')
  refine Ev.cond (fun _ => ?_) (fun h' => absurd c1 h')
  refine Ev.cond (fun _ => ?_) (fun h' => absurd c3 h')
  refine Ev.cond (fun _ => ?_) (fun h' => absurd c4 h')
  rw [Int.toNat_natCast, w64_succ (show i < 9223372036854775807 by omega)]
  exact h3
theorem BI_ev (a b : Int) (s : ByteArray) (hn : s.size ≤ 1099511627776) : Ev (fun k => impl_BlockInterleave.f k a b s) (if fitsB a b s = true then (strOfNums (pre (fun k => bt s (place b.toNat a.toNat k : Nat)) s.size), true) else (⟨#[]⟩, false)) := by
 unfold impl_BlockInterleave.f
 simp only [isBlock_eq a b s hn, Option.bind_some]
 by_cases h : fitsB a b s = true
 ·obtain ⟨r, c, rfl, rfl, hr, hr2, hc, hc2, hs, hb, _⟩ := fitsB_nat h
  have c1 : (0 : Int) ≤ (s.size : Int) := by omega
  have c2 : s.size ≤ 281474976710656 := by omega
  have e : List.replicate s.size (0 : Int) = fillN s r c 0 := by
   unfold fillN
   apply List.ext_getElem
   ·rw [List.length_replicate, pre_length, hs]
   ·intro k h1 h2
    simp [pre]
  simp only [h, if_true, c1, Int.toNat_natCast, c2, e]
  have h3 := BI_l0 r c s hr hr2 hc hc2 hs hb (r * c) 0 (by omega)
  rw [hs] at h3 ⊢
  exact h3
 ·simp only [h, if_false]; exact Ev.now _
theorem lineState_eq (st : Int) : impl_isLineState.f st = some (decide (st = -1 ∨ st = 1)) := by
 unfold impl_isLineState.f
 by_cases h : st = -1
 ·rw [if_pos h, decide_eq_true (.inl h)]
 ·rw [if_neg h]
  by_cases h2 : st = 1
  ·rw [decide_eq_true (.inr h2), h2]; rfl
  ·rw [decide_eq_false (fun e => e.elim h h2), beq_eq_false_iff_ne.2 h2]
theorem inAll_rd {lo hi : Int} {xs : List Int} (h : inAll lo hi xs = true) {n : Nat} (hn : n < xs.length) : lo ≤ rd xs (n : Int) ∧ rd xs (n : Int) ≤ hi := by
 induction xs generalizing n with
 | nil => exact absurd hn (by simp)
 | cons x xs ih =>
  rw [inAll_cons, Bool.and_eq_true, decide_eq_true_eq] at h
  cases n with
  | zero => exact h.1
  | succ n =>
   have := ih h.2 (n := n) (by rw [List.length_cons] at hn; omega)
   rwa [show rd (x :: xs) ((n + 1 : Nat) : Int) = rd xs (n : Int) from by unfold rd; simp]
theorem join_len (xs : List ByteArray) (h : ∀ x ∈ xs, x.size ≤ 30) : (joinT xs (⟨#[44]⟩ : ByteArray)).size ≤ 31 * xs.length := by
 unfold joinT
 rw [← size_data]
 show (Lib.join (xs.map (·.data.toList)) [44]).length ≤ _
 cases xs with
 | nil => exact Nat.zero_le _
 | cons x r =>
  rw [List.map_cons, Lib.join_cons, List.length_append, Lib.joinTail, List.length_flatten, List.map_map]
  have hx := h x List.mem_cons_self
  have hr : ∀ l : List ByteArray, (∀ y ∈ l, y.size ≤ 30) → (List.map (List.length ∘ fun y => [44] ++ y) (l.map (·.data.toList))).sum ≤ 31 * l.length := by
   intro l
   induction l with
   | nil => intro _; exact Nat.zero_le _
   | cons y l ih =>
    intro hl
    have h1 := ih (fun z hz => hl z (List.mem_cons_of_mem _ hz))
    have h2 := hl y List.mem_cons_self
    rw [List.map_cons, List.map_cons, List.sum_cons, List.length_cons]
    have h3 : (List.length ∘ fun y : List UInt8 => [44] ++ y) y.data.toList = y.size + 1 := by
     show ([44] ++ y.data.toList : List UInt8).length = _
     rw [List.length_append, size_data]; simp; omega
    omega
  have := hr r (fun z hz => h z (List.mem_cons_of_mem _ hz))
  rw [size_data, List.length_cons]
  rw [List.map_map] at this
  first | omega | (simp only [List.map_map] at *; omega)
def revD (u : Nat) : List Int := if h : u = 0 then [] else (48 + ((u % 10 : Nat) : Int)) :: revD (u / 10)
termination_by u
decreasing_by omega
theorem revD_zero : revD 0 = [] := by unfold revD; rfl
theorem revD_pos {u : Nat} (h : u ≠ 0) : revD u = (48 + ((u % 10 : Nat) : Int)) :: revD (u / 10) := by
 rw [revD, dif_neg h]
theorem revD_dec (u : Nat) (h : u ≠ 0) : Lib.decDigits u = (revD u).reverse.map (fun n => UInt8.ofNat n.toNat) := by
 induction u using Nat.strongRecOn with
 | _ u ih =>
  rw [Lib.decDigits]
  by_cases h10 : u < 10
  ·rw [dif_pos h10, revD_pos h, Nat.mod_eq_of_lt h10, Nat.div_eq_of_lt h10, revD_zero]
   show _ = [UInt8.ofNat (48 + (u : Int)).toNat]
   congr 2
  ·rw [dif_neg h10, revD_pos h, ih (u / 10) (by omega) (by omega), List.reverse_cons, List.map_append]
   congr 2
theorem revD_len20 : ∀ (m u : Nat), u < 10 ^ m → (revD u).length ≤ m
 | 0, u, h => by
  obtain rfl : u = 0 := by simpa using h
  rw [revD_zero]; exact Nat.le_refl _
 | m + 1, u, h => by
  by_cases h0 : u = 0
  ·subst h0; rw [revD_zero]; exact Nat.zero_le _
  ·rw [revD_pos h0, List.length_cons]
   have := revD_len20 m (u / 10) (by rw [Nat.pow_succ] at h; omega)
   omega
theorem decDigits_len (u : Nat) (h : u < 10 ^ 20) : 1 ≤ (Lib.decDigits u).length ∧ (Lib.decDigits u).length ≤ 20 := by
 by_cases h0 : u = 0
 ·subst h0
  rw [Lib.decDigits]
  exact ⟨Nat.le_refl _, by decide⟩
 ·have e := revD_dec u h0
  have h1 := revD_len20 20 u h
  rw [e, List.length_map, List.length_reverse]
  refine ⟨?_, h1⟩
  rw [revD_pos h0, List.length_cons]; omega
theorem itoa_len (n : Int) (h1 : -1000000000000000 ≤ n) (h2 : n ≤ 1000000000000000) : (Lib.itoa n).length ≤ 21 := by
 unfold Lib.itoa
 split
 ·have := (decDigits_len n.natAbs (Nat.lt_of_le_of_lt (show n.natAbs ≤ 1000000000000000 by omega) (by decide))).2
  rw [List.length_cons]; omega
 ·have := (decDigits_len n.toNat (Nat.lt_of_le_of_lt (show n.toNat ≤ 1000000000000000 by omega) (by decide))).2
  omega
theorem dec_size (n : Int) (h1 : -1000000000000000 ≤ n) (h2 : n ≤ 1000000000000000) : (decS n).size ≤ 30 := by
 unfold decS
 rw [ofL_size]
 have := itoa_len n h1 h2
 omega
theorem lt_l0 (ds : List Int) (hd : ds.length ≤ 64) (hin : inAll (-1000000000000000) 1000000000000000 ds = true) : ∀ d n (xs : List ByteArray), n + d = ds.length → xs.length ≤ n → (∀ x ∈ xs, x.size ≤ 30) →
 TP (fun k => impl_listText.l0 k xs ds (ds.length : Int) (n : Int)) (fun r => r.size ≤ 2000) := by
 intro d
 induction d with
 | zero =>
  intro n xs h hx hz
  have hj := join_len xs hz
  apply TP.succ
  simp only [impl_listText.l0]
  refine TP.no (by omega) (TP.some (r := joinT xs (⟨#[44]⟩ : ByteArray)) ?_ (TP.ret (by omega)))
  unfold strings_Join.f
  rw [if_pos ⟨by omega, by omega⟩]
 | succ d ih =>
  intro n xs h hx hz
  have hr := inAll_rd hin (show n < ds.length by omega)
  apply TP.succ
  simp only [impl_listText.l0, w64_succ (show n < 9223372036854775807 by omega)]
  refine TP.yes (by omega) (TP.yes (by omega) (TP.yes (by omega) (TP.some (Decimal_eq _ (by omega) (by omega)) (TP.yes (by omega) ?_))))
  refine ih (n + 1) _ (by omega) (by rw [List.length_append]; simp; omega) (fun x hx2 => ?_)
  rcases List.mem_append.1 hx2 with h2 | h2
  ·exact hz x h2
  ·rw [List.mem_singleton.1 h2]; exact dec_size _ hr.1 hr.2
theorem isVotes_eq (n : Int) : impl_isVotes.f n = some (decide (1 ≤ n ∧ n ≤ 15) && (Int.tmod n 2 == 1)) := by
 unfold impl_isVotes.f
 rw [within_eq, Option.bind_some]
 by_cases h : 1 ≤ n ∧ n ≤ 15
 ·rw [decide_eq_true h, if_pos rfl, Bool.true_and]
 ·rw [decide_eq_false h, if_neg (by decide), Bool.false_and]
theorem remainder_implL {p : Nat} (h1 : 2 ≤ p) (h2 : p ≤ 131071) (s : ByteArray) (hn : s.size ≤ 1099511627776) (hb : s.data.toList.all isBitB = true) : ∀ (d n r : Nat), n + d = s.size → r < 2 ^ deg p →
 Ev (fun k => impl_remainder.l0 k (p : Int) s (r : Int) (s.size : Int) (n : Int)) ((remN p (s.data.toList.drop n) r : Nat) : Int) := by
 intro d
 induction d with
 | zero =>
  intro n r h hr
  have c1 : ¬ ((n : Int) < (s.size : Int)) := by omega
  have c2 : s.data.toList.drop n = [] := List.drop_eq_nil_of_le (by rw [size_data]; omega)
  rw [c2]
  apply Ev.succ
  simp only [impl_remainder.l0, c1, if_false, remN]; exact Ev.now _
 | succ d ih =>
  intro n r h hr
  have hl : n < s.size := by omega
  have c1 : (n : Int) < (s.size : Int) := by omega
  have c2 : (0 : Int) ≤ (n : Int) := by omega
  have hT := T_lt h1 (p_lt64 h2) hr
  have hp := pow16 h1 h2
  have hd := deg_pos h1 (p_lt64 h2)
  have hp2 : 2 ≤ 2 ^ deg p := by
   have := Nat.pow_le_pow_right (show 0 < 2 by decide) hd
   simpa using this
  have hw := w64_succ (show n < 9223372036854775807 by omega)
  have hbt := bt_nat s n hl
  have hbit : isBitB (s[n]) = true := by
   rw [List.all_eq_true] at hb
   exact hb _ (by rw [← data_get hl]; exact List.getElem_mem _)
  rw [drop_data hl, remN]
  by_cases c : s[n] = 49
  ·have c3 : bt s (n : Int) = 49 := by rw [hbt, c]; rfl
   have hx : T p r ^^^ 1 < 2 ^ deg p := Nat.xor_lt_two_pow hT (by omega)
   have h3 := ih (n + 1) (T p r ^^^ 1) (by omega) hx
   rw [if_pos c]
   apply Ev.succ
   have e : Go.bits .xor .i64 (T p r : Int) 1 = ((T p r ^^^ 1 : Nat) : Int) := bits_xor (b := 1) (by omega) (by omega)
   simp only [impl_remainder.l0, c1, c2, if_true, times_eq h1 h2 hr, Option.bind_some, c3, e, hw]; exact h3
  ·have c48 : bt s (n : Int) = 48 := by
    rcases (isBit_iff _).1 hbit with h | h
    ·rw [hbt]; exact h
    ·exact absurd (UInt8.toNat_inj.1 (by show (s[n]).toNat = 49; omega)) c
   have h3 := ih (n + 1) (T p r ^^^ 0) (by omega) (by rw [Nat.xor_zero]; exact hT)
   rw [if_neg c]
   apply Ev.succ
   rw [Nat.xor_zero] at h3 ⊢
   simp only [impl_remainder.l0, c1, c2, if_true, times_eq h1 h2 hr, Option.bind_some, c48, Int.reduceEq, if_false, hw]; exact h3
theorem remainder_impl {p : Nat} (h1 : 2 ≤ p) (h2 : p ≤ 131071) (s : ByteArray) (hn : s.size ≤ 1099511627776) (hb : s.data.toList.all isBitB = true) :
 Ev (fun k => impl_remainder.f k (p : Int) s) ((remN p s.data.toList 0 : Nat) : Int) :=
 remainder_implL h1 h2 s hn hb s.size 0 0 (by omega) (Nat.two_pow_pos _)
theorem CBi_l0 {p : Nat} (h1 : 2 ≤ p) (h2 : p ≤ 131071) : ∀ (d n r : Nat), n + d = deg p → r < 2 ^ deg p →
 Ev (fun k => impl_checkBits.l0 k (p : Int) (r : Int) (deg p : Int) (n : Int)) (strOfNums (dgts (iterT p d r) (deg p))) := by
 have hp := pow16 h1 h2
 have hd16 := deg16 h1 h2
 intro d
 induction d with
 | zero =>
  intro n r h hr
  have c1 : ¬ (n : Int) < (deg p : Int) := by omega
  have hr2 : r < 2 ^ 62 := Nat.lt_of_lt_of_le hr (Nat.le_trans hp (by decide))
  apply Ev.succ
  simp only [impl_checkBits.l0]
  refine Ev.cond (fun h' => absurd h' c1) (fun _ => ?_)
  refine Ev.bind (Ev.const (degree_eq h1 h2)) ?_
  exact Ev.bind (digits_ev r (deg p) hr2 (by omega)) (Ev.now _)
 | succ d ih =>
  intro n r h hr
  have c1 : (n : Int) < (deg p : Int) := by omega
  have h3 := ih (n + 1) (T p r) (by omega) (T_lt h1 (p_lt64 h2) hr)
  apply Ev.succ
  simp only [impl_checkBits.l0]
  refine Ev.cond (fun _ => ?_) (fun h' => absurd c1 h')
  refine Ev.bind (Ev.const (times_eq h1 h2 hr)) ?_
  rw [w64_succ (show n < 9223372036854775807 by omega)]
  exact h3
def chk (p : Nat) (s : ByteArray) : ByteArray := strOfNums (checkN p s.data.toList)
theorem chk_impl {p : Nat} (h1 : 2 ≤ p) (h2 : p ≤ 131071) (s : ByteArray) (hn : s.size ≤ 400) (hb : s.data.toList.all isBitB = true) : Ev (fun k => impl_checkBits.f k (p : Int) s) (chk p s) := by
 have hr := remN_lt h1 (p_lt64 h2) s.data.toList 0 (Nat.two_pow_pos _)
 unfold impl_checkBits.f
 refine Ev.bind (remainder_impl h1 h2 s (by omega) hb) ?_
 refine Ev.bind (Ev.const (degree_eq h1 h2)) ?_
 exact CBi_l0 h1 h2 (deg p) 0 _ (by omega) hr
theorem bitsB_both {s : ByteArray} (h : bitsB s = true) : s.data.toList.all isBitB = true ∧ s.size ≤ 400 := by
 unfold bitsB at h
 rw [Bool.and_eq_true, decide_eq_true_eq] at h
 first | exact ⟨h.1, h.2⟩ | exact ⟨h.2, h.1⟩
def isLowB (b : UInt8) : Bool := decide (97 ≤ b.toNat ∧ b.toNat ≤ 122)
def nameB (s : ByteArray) : Bool := s.data.toList.all isLowB && decide (1 ≤ s.size ∧ s.size ≤ 10)
theorem nameEnd (s : ByteArray) : (if (s.size : Int) ≥ 1 then (some (decide ((s.size : Int) ≤ 10))) else (some false)) = some (decide (1 ≤ s.size ∧ s.size ≤ 10)) := by
 by_cases h : 1 ≤ s.size
 ·rw [if_pos (by omega)]
  congr 1
  exact decide_eq_decide.2 ⟨fun h2 => ⟨h, by omega⟩, fun h2 => by omega⟩
 ·rw [if_neg (by omega), decide_eq_false (fun h2 => h h2.1)]
theorem isLow_not {b : UInt8} {z : Int} (e : z = (b.toNat : Int)) (h : z < 97 ∨ z > 122) : isLowB b = false := by
 unfold isLowB
 exact decide_eq_false (by omega)
theorem isLow_yes {b : UInt8} {z : Int} (e : z = (b.toNat : Int)) (h : ¬ z < 97) (h2 : ¬ z > 122) : isLowB b = true := by
 unfold isLowB
 exact decide_eq_true (by omega)
def conI (ns ls : List ByteArray) (n : Nat) : Bool := nameB (sn ns n) && ((decide (n = 0) || Op.bytesLess (sn ns (n - 1)).toList (sn ns n).toList) && bitsB (sn ls n))
def conR (ns ls : List ByteArray) (n d : Nat) : Bool := (List.range' n d).all (conI ns ls)
theorem conR_succ (ns ls : List ByteArray) (n d : Nat) : conR ns ls n (d + 1) = (conI ns ls n && conR ns ls (n + 1) d) := rfl
def conB (ns ls : List ByteArray) : Bool := decide (ns.length ≤ 6 ∧ ls.length = ns.length) && conR ns ls 0 ns.length
theorem IsNameI_l0 (s : ByteArray) (hn : s.size ≤ 1099511627776) : ∀ d n, n + d = s.size → Ev (fun k => impl_IsName.l0 k s (s.size : Int) (n : Int)) ((s.data.toList.drop n).all isLowB && decide (1 ≤ s.size ∧ s.size ≤ 10)) := by
 intro d
 induction d with
 | zero =>
  intro n h
  have c1 : ¬ (n : Int) < (s.size : Int) := by omega
  rw [List.drop_eq_nil_of_le (by rw [size_data]; omega)]
  apply Ev.succ
  simp only [impl_IsName.l0, nameEnd]
  exact Ev.cond (fun h' => absurd h' c1) (fun _ => Ev.const (by simp))
 | succ d ih =>
  intro n h
  have hl : n < s.size := by omega
  have c1 : (n : Int) < (s.size : Int) := by omega
  have c2 : (0 : Int) ≤ (n : Int) := by omega
  have h3 := ih (n + 1) (by omega)
  have hb := bt_nat s n hl
  rw [drop_data hl, List.all_cons]
  apply Ev.succ
  simp only [impl_IsName.l0, w64_succ (show n < 9223372036854775807 by omega)]
  refine Ev.cond (fun _ => ?_) (fun h' => absurd c1 h')
  refine Ev.cond (fun _ => ?_) (fun h' => absurd c2 h')
  refine Ev.cond (fun _ => ?_) (fun h' => absurd c1 h')
  refine Ev.cond (fun h1 => ?_) (fun h1 => ?_)
  ·rw [isLow_not hb (.inl h1)]; exact Ev.now _
  refine Ev.cond (fun h2 => ?_) (fun h2 => ?_)
  ·rw [isLow_not hb (.inr h2)]; exact Ev.now _
  rw [isLow_yes hb h1 h2, Bool.true_and]
  exact h3
theorem IsNameI_ev (s : ByteArray) (hn : s.size ≤ 1099511627776) : Ev (fun k => impl_IsName.f k s) (nameB s) := IsNameI_l0 s hn s.size 0 (by omega)
theorem ValidConsoleI_l0 (ns ls : List ByteArray) (hl : ls.length = ns.length) (h6 : ns.length ≤ 6) (hs : totS ns ≤ 1099511627776) (ht : totS ls ≤ 1099511627776) : ∀ d n, n + d = ns.length → Ev (fun k => impl_ValidConsole.l0 k ns (ns.length : Int) (n : Int) ns ls) (conR ns ls n d) := by
 intro d
 induction d with
 | zero =>
  intro n h
  have c1 : ¬ (n : Int) < (ns.length : Int) := by omega
  apply Ev.succ
  simp only [impl_ValidConsole.l0]
  exact Ev.cond (fun h' => absurd h' c1) (fun _ => Ev.now _)
 | succ d ih =>
  intro n h
  have hn : n < ns.length := by omega
  have c1 : (n : Int) < (ns.length : Int) := by omega
  have c2 : (0 : Int) ≤ (n : Int) := by omega
  have c3 : (n : Int) < (ls.length : Int) := by omega
  have h3 := ih (n + 1) (by omega)
  have z1 := Nat.le_trans (sn_size ns n) hs
  have z2 := Nat.le_trans (sn_size ls n) ht
  have tail : Ev (fun k => if (n : Int) < (ls.length : Int) then ((impl_IsBits.f (sn ls n)).bind fun t2 => (if t2 = true then (impl_ValidConsole.l0 k ns (ns.length : Int) ((n + 1 : Nat) : Int) ns ls) else (some false))) else (none)) (bitsB (sn ls n) && conR ns ls (n + 1) d) := by
   refine Ev.cond (fun _ => ?_) (fun h' => absurd c3 h')
   refine Ev.bind (Ev.const (IsBits_eq _ (by omega))) ?_
   rcases bitsB (sn ls n) with _ | _
   ·exact Ev.cond (fun h' => absurd h' (by decide)) (fun _ => Ev.now _)
   ·exact Ev.cond (fun _ => h3) (fun h' => absurd rfl h')
  rw [conR_succ]
  unfold conI
  apply Ev.succ
  simp only [impl_ValidConsole.l0, sr_nat, w64_succ (show n < 9223372036854775807 by omega)]
  refine Ev.cond (fun _ => ?_) (fun h' => absurd c1 h')
  refine Ev.cond (fun _ => ?_) (fun h' => absurd c2 h')
  refine Ev.cond (fun _ => ?_) (fun h' => absurd c1 h')
  refine Ev.bind (IsNameI_ev _ z1) ?_
  rcases nameB (sn ns n) with _ | _
  ·exact Ev.cond (fun h' => absurd h' (by decide)) (fun _ => Ev.now _)
  refine Ev.cond (fun _ => ?_) (fun h' => absurd rfl h')
  rw [Bool.true_and]
  rcases Nat.eq_zero_or_pos n with h0 | h0
  ·have c4 : ¬ (n : Int) > 0 := by omega
   rw [decide_eq_true h0, Bool.true_or, Bool.true_and]
   exact Ev.cond (fun h' => absurd h' c4) (fun _ => tail)
  ·have c4 : (n : Int) > 0 := by omega
   have c5 : (0 : Int) ≤ ((n - 1 : Nat) : Int) := by omega
   have c6 : ((n - 1 : Nat) : Int) < (ns.length : Int) := by omega
   have e : wrap64 ((n : Int) - 1) = ((n - 1 : Nat) : Int) := by rw [w64 (by omega) (by omega)]; omega
   rw [decide_eq_false (show ¬ n = 0 by omega), Bool.false_or]
   simp only [e, sr_nat]
   refine Ev.cond (fun _ => ?_) (fun h' => absurd c4 h')
   refine Ev.cond (fun _ => ?_) (fun h' => absurd c5 h')
   refine Ev.cond (fun _ => ?_) (fun h' => absurd c6 h')
   rcases Op.bytesLess (sn ns (n - 1)).toList (sn ns n).toList with _ | _
   ·exact Ev.cond (fun h' => absurd h' (by decide)) (fun _ => Ev.now _)
   ·rw [Bool.true_and]
    exact Ev.cond (fun _ => tail) (fun h' => absurd rfl h')
theorem ValidConsoleI_ev (ns ls : List ByteArray) (hn : ns.length ≤ 1099511627776) (hs : totS ns ≤ 1099511627776) (ht : totS ls ≤ 1099511627776) : Ev (fun k => impl_ValidConsole.f k ns ls) (conB ns ls) := by
 unfold impl_ValidConsole.f conB
 by_cases h6 : ns.length ≤ 6
 ·have c1 : ¬ (ns.length : Int) > 6 := by omega
  refine Ev.cond (fun h' => absurd h' c1) (fun _ => ?_)
  apply Ev.succ
  simp only [impl_ValidConsole.j0]
  by_cases hl : ls.length = ns.length
  ·have c2 : (ls.length : Int) = (ns.length : Int) := by omega
   rw [decide_eq_true ⟨h6, hl⟩, Bool.true_and, c2, bne_self_eq_false]
   exact Ev.cond (fun h' => absurd h' (by decide)) (fun _ => ValidConsoleI_l0 ns ls hl h6 hs ht ns.length 0 (by omega))
  ·have c2 : ¬ (ls.length : Int) = (ns.length : Int) := by omega
   rw [decide_eq_false (fun h => hl h.2), Bool.false_and, bne_iff_ne.2 c2]
   exact Ev.cond (fun _ => Ev.now _) (fun h' => absurd rfl h')
 ·have c1 : (ns.length : Int) > 6 := by omega
  rw [decide_eq_false (fun h => h6 h.1), Bool.false_and]
  refine Ev.cond (fun _ => ?_) (fun h' => absurd c1 h')
  apply Ev.succ
  simp only [impl_ValidConsole.j0]
  exact Ev.cond (fun _ => Ev.now _) (fun h' => absurd (by trivial) h')
theorem conB_iff (ns ls : List ByteArray) : conB ns ls = true ↔ ns.length ≤ 6 ∧ ls.length = ns.length ∧ ∀ n, n < ns.length → conI ns ls n = true := by
 unfold conB conR
 rw [Bool.and_eq_true, decide_eq_true_eq, List.all_eq_true]
 constructor
 ·rintro ⟨⟨h1, h2⟩, h3⟩
  exact ⟨h1, h2, fun n hn => h3 n (List.mem_range'_1.2 ⟨Nat.zero_le _, by omega⟩)⟩
 ·rintro ⟨h1, h2, h3⟩
  refine ⟨⟨h1, h2⟩, fun n hn => h3 n ?_⟩
  have := (List.mem_range'_1.1 hn).2
  omega
theorem conI_iff (ns ls : List ByteArray) (n : Nat) : conI ns ls n = true ↔ nameB (sn ns n) = true ∧ (n = 0 ∨ Op.bytesLess (sn ns (n - 1)).toList (sn ns n).toList = true) ∧ bitsB (sn ls n) = true := by
 unfold conI
 rw [Bool.and_eq_true, Bool.and_eq_true, Bool.or_eq_true, decide_eq_true_eq]
theorem name_size {s : ByteArray} (h : nameB s = true) : s.size ≤ 10 := by
 unfold nameB at h
 rw [Bool.and_eq_true, decide_eq_true_eq] at h
 exact h.2.2
theorem totS_le (b : Nat) : ∀ xs : List ByteArray, (∀ x ∈ xs, x.size ≤ b) → totS xs ≤ xs.length * b
 | [], _ => by rw [List.length_nil, Nat.zero_mul]; exact Nat.le_refl _
 | x :: r, h => by
  have h1 := h x List.mem_cons_self
  have h2 := totS_le b r (fun y hy => h y (List.mem_cons_of_mem _ hy))
  rw [totS, List.length_cons, Nat.succ_mul]
  omega
theorem mem_sn {xs : List ByteArray} {x : ByteArray} (h : x ∈ xs) : ∃ n, n < xs.length ∧ sn xs n = x := by
 obtain ⟨n, hn, e⟩ := List.getElem_of_mem h
 exact ⟨n, hn, by rw [sn_get hn, e]⟩
theorem con_names_le {ns ls : List ByteArray} (h : conB ns ls = true) : ∀ x ∈ ns, x.size ≤ 10 := fun x hx => by
 obtain ⟨n, hn, rfl⟩ := mem_sn hx
 exact name_size ((conI_iff ns ls n).1 (((conB_iff ns ls).1 h).2.2 n hn)).1
theorem con_lines_le {ns ls : List ByteArray} (h : conB ns ls = true) : ∀ x ∈ ls, x.size ≤ 400 ∧ x.data.toList.all isBitB = true := fun x hx => by
 obtain ⟨n, hn, rfl⟩ := mem_sn hx
 have h1 := (conB_iff ns ls).1 h
 have h2 := bitsB_both ((conI_iff ns ls n).1 (h1.2.2 n (by omega))).2.2
 exact ⟨h2.2, h2.1⟩
theorem valid_TP (ns ls : List ByteArray) (h1 : ns.length ≤ 1000) (h2 : ls.length ≤ 1000) (h3 : ∀ x ∈ ns, x.size ≤ 1000000) (h4 : ∀ x ∈ ls, x.size ≤ 1000000) : TP (fun k => impl_ValidConsole.f k ns ls) (fun r => r = conB ns ls) := by
 have t1 := totS_le 1000000 ns h3
 have t2 := totS_le 1000000 ls h4
 have t3 : ns.length * 1000000 ≤ 1000 * 1000000 := Nat.mul_le_mul_right _ h1
 have t4 : ls.length * 1000000 ≤ 1000 * 1000000 := Nat.mul_le_mul_right _ h2
 exact TP.of (ValidConsoleI_ev ns ls (by omega) (by omega) (by omega)) rfl
theorem nT {w : ByteArray} {l : List UInt8} (h : w.data.toList ≠ l) : ¬ w.toList = l := by rw [Lib.toList_data]; exact h
theorem yT {w : ByteArray} {l : List UInt8} (h : w.data.toList = l) : w.toList = l := by rw [Lib.toList_data]; exact h
theorem Ev.of_mono {α : Type} {g : Nat → Option α} (hm : ∀ k, LeO (g k) (g (k + 1))) (N : Nat) {r : α} (h : g N = some r) : Ev g r := by
 refine ⟨N, fun k hk => ?_⟩
 induction k with
 | zero =>
  obtain rfl : N = 0 := by omega
  exact h
 | succ k ih =>
  by_cases h1 : N = k + 1
  ·rw [← h1]; exact h
  ·exact hm k r (ih (by omega))
def W24 : List ByteArray := [(⟨#[48, 48, 49, 49]⟩ : ByteArray), (⟨#[48, 49, 48, 49]⟩ : ByteArray), (⟨#[48, 49, 49, 48]⟩ : ByteArray), (⟨#[49, 48, 48, 49]⟩ : ByteArray)]
theorem mk24 : Ev (fun k => impl_MakeBlockCode.f k 2 4) (2, 4, W24, W24, true) := Ev.of_mono (fun k => impl_MakeBlockCode.mono 2 4 k) 40 Qr0_
theorem vb24 : Ev (fun k => impl_ValidBlockCode.f k 2 4 W24 W24) true := Ev.of_mono (fun k => impl_ValidBlockCode.mono 2 4 W24 W24 k) 40 Qr0_
theorem cmd_ev (ns ls : List ByteArray) (line w0 : ByteArray) (wt : List ByteArray) (fo : ByteArray) {fr : ByteArray} {p : Int} {bi : ByteArray} {n li : List Int} {tx : ByteArray} {ns' ls' : List ByteArray} (hs : line.size ≤ 1000000) (hsp : (splitL 32 line.data.toList).map ofL = w0 :: wt) (hk : kmGet kindsL w0 = (fo, true)) (h0 : w0.size ≤ 1000) (hl : wt.length = fo.size) (hl2 : wt.length ≤ 100) (hns : ns.length ≤ 1000) (hls : ls.length ≤ 1000)
 (hr : Ev (fun k => impl_Console_read.f k ns ls fo wt) (fr, p, bi, n, li, true)) (hc : Ev (fun k => impl_Console_carry.f k ns ls w0 fr p bi n li) (tx, true, ns', ls')) : Ev (fun k => impl_command.f k ns ls line) (ns', ls', tx) := by
 unfold impl_command.f
 have hsp2 := split_eq line 32 (by omega)
 rw [hsp] at hsp2
 refine Ev.bind (Ev.const hsp2) (Ev.cond (fun _ => ?_) (fun h' => absurd (by rw [List.length_cons]; omega) h'))
 have e0 : rdOf ByteArray.empty (w0 :: wt) 0 = w0 := rfl
 rw [e0]
 have hk2 : impl_kindsOf.f w0 = some (fo, true) := by
  unfold impl_kindsOf.f
  rw [if_pos (by unfold maxLen; omega), hk]
 refine Ev.bind (Ev.const hk2) (Ev.cond (fun _ => Ev.cond (fun _ => Ev.cond (fun _ => ?_) (fun h' => absurd (by rw [List.length_cons]; show _ = (fo.size : Int); omega) h')) (fun h' => absurd (by rw [List.length_cons]; omega) h')) (fun h' => absurd (by trivial) h'))
 have hcp : impl_copyConsole.f ns ls = some (ns, ls) := by
  unfold impl_copyConsole.f
  rw [clone_eq ns (by omega), Option.bind_some, clone_eq ls (by omega)]; rfl
 refine Ev.bind (Ev.const hcp) (Ev.bind hr (Ev.cond (fun _ => Ev.bind hc (Ev.cond (fun _ => Ev.now _) (fun h' => absurd (by trivial) h'))) (fun h' => absurd (by trivial) h')))
section
variable {ns ls : List ByteArray} {fo : ByteArray} {lw : List ByteArray} {fr : ByteArray} {p : Int} {bi : ByteArray} {n li : List Int} {r : ByteArray × Int × ByteArray × List Int × List Int × Bool}
theorem rd_end (i : Nat) (h : lw.length ≤ i) : Ev (fun k => impl_Console_read.l0 k ns ls fo lw (i : Int) fr p bi n li) (fr, p, bi, n, li, true) := by
 apply Ev.succ
 simp only [impl_Console_read.l0]
 exact Ev.cond (fun h' => absurd h' (by omega)) (fun _ => Ev.now _)
theorem rd_W (i : Nat) (h : i < lw.length) (hf : i < fo.size) (hz : i < 1000) (hb : bt fo (i : Int) = 87) (hx : Ev (fun k => impl_Console_read.l0 k ns ls fo lw ((i + 1 : Nat) : Int) (sn lw i) p bi n li) r) : Ev (fun k => impl_Console_read.l0 k ns ls fo lw (i : Int) fr p bi n li) r := by
 apply Ev.succ
 simp only [impl_Console_read.l0, sr_nat, hb, w64_succ (show i < 9223372036854775807 by omega)]
 refine Ev.cond (fun _ => ?_) (fun h' => absurd (by omega) h')
 refine Ev.cond (fun _ => ?_) (fun h' => absurd (by omega) h')
 refine Ev.cond (fun _ => ?_) (fun h' => absurd (by omega) h')
 exact Ev.cond (fun h' => absurd h' (by decide)) (fun _ => Ev.cond (fun _ => hx) (fun h' => absurd (by trivial) h'))
theorem rd_A (i j : Nat) (h : i < lw.length) (hf : i < fo.size) (hz : i < 1000) (hb : bt fo (i : Int) = 65) (hj : Ev (fun k => slices_Index_string_string.f k ns (sn lw i)) (j : Int)) (hjl : j < ls.length) (hx : Ev (fun k => impl_Console_read.l0 k ns ls fo lw ((i + 1 : Nat) : Int) fr (j : Int) (sn ls j) n li) r) : Ev (fun k => impl_Console_read.l0 k ns ls fo lw (i : Int) fr p bi n li) r := by
 apply Ev.succ
 simp only [impl_Console_read.l0, sr_nat, hb, w64_succ (show i < 9223372036854775807 by omega)]
 refine Ev.cond (fun _ => ?_) (fun h' => absurd (by omega) h')
 refine Ev.cond (fun _ => ?_) (fun h' => absurd (by omega) h')
 refine Ev.cond (fun _ => ?_) (fun h' => absurd (by omega) h')
 refine Ev.cond (fun _ => ?_) (fun h' => absurd (by trivial) h')
 refine Ev.bind hj ?_
 refine Ev.cond (fun _ => ?_) (fun h' => absurd (by omega) h')
 refine Ev.cond (fun _ => ?_) (fun h' => absurd (by omega) h')
 rw [sr_nat]
 exact hx
theorem rd_N (i : Nat) (v : Int) (h : i < lw.length) (hf : i < fo.size) (hz : i < 1000) (hb : bt fo (i : Int) = 78) (hn : n.length < 1000) (hw : (sn lw i).size ≤ 1000000) (hv : rdInt (sn lw i) = (v, true)) (hx : Ev (fun k => impl_Console_read.l0 k ns ls fo lw ((i + 1 : Nat) : Int) fr p bi (n ++ [v]) li) r) : Ev (fun k => impl_Console_read.l0 k ns ls fo lw (i : Int) fr p bi n li) r := by
 apply Ev.succ
 simp only [impl_Console_read.l0, sr_nat, hb, w64_succ (show i < 9223372036854775807 by omega)]
 refine Ev.cond (fun _ => ?_) (fun h' => absurd (by omega) h')
 refine Ev.cond (fun _ => ?_) (fun h' => absurd (by omega) h')
 refine Ev.cond (fun _ => ?_) (fun h' => absurd (by omega) h')
 refine Ev.cond (fun h' => absurd h' (by decide)) (fun _ => Ev.cond (fun h' => absurd h' (by decide)) (fun _ => Ev.cond (fun h' => absurd h' (by decide)) (fun _ => Ev.cond (fun _ => ?_) (fun h' => absurd (by trivial) h'))))
 refine Ev.bind (Ev.const ((readDec_eq _ hw).trans (congrArg some hv))) ?_
 exact Ev.cond (fun _ => Ev.cond (fun _ => hx) (fun h' => absurd (by trivial) h')) (fun h' => absurd hn h')
theorem rd_L (i : Nat) (v : List Int) (h : i < lw.length) (hf : i < fo.size) (hz : i < 1000) (hb : bt fo (i : Int) = 76) (hv : Ev (fun k => impl_ReadList.f k (sn lw i)) (v, true)) (hx : Ev (fun k => impl_Console_read.l0 k ns ls fo lw ((i + 1 : Nat) : Int) fr p bi n v) r) : Ev (fun k => impl_Console_read.l0 k ns ls fo lw (i : Int) fr p bi n li) r := by
 apply Ev.succ
 simp only [impl_Console_read.l0, sr_nat, hb, w64_succ (show i < 9223372036854775807 by omega)]
 refine Ev.cond (fun _ => ?_) (fun h' => absurd (by omega) h')
 refine Ev.cond (fun _ => ?_) (fun h' => absurd (by omega) h')
 refine Ev.cond (fun _ => ?_) (fun h' => absurd (by omega) h')
 refine Ev.cond (fun h' => absurd h' (by decide)) (fun _ => Ev.cond (fun h' => absurd h' (by decide)) (fun _ => Ev.cond (fun h' => absurd h' (by decide)) (fun _ => Ev.cond (fun h' => absurd h' (by decide)) (fun _ => Ev.cond (fun _ => ?_) (fun h' => absurd (by trivial) h')))))
 exact Ev.bind hv (Ev.cond (fun _ => hx) (fun h' => absurd (by trivial) h'))
end
theorem ca_made {ns ls : List ByteArray} {wd fr : ByteArray} {p : Int} {bi : ByteArray} {n li : List Int} {b tx : ByteArray} {ns' ls' : List ByteArray} (hw : wd.toList ≠ [100, 114, 111, 112] ∧ wd.toList ≠ [115, 104, 111, 119] ∧ wd.toList ≠ [102, 108, 105, 112] ∧ wd.toList ≠ [100, 97, 116, 97] ∧ wd.toList ≠ [118, 101, 114, 105, 102, 121]) (hm : Ev (fun k => impl_made.f k wd fr p bi n li) (b, tx, true)) (hp : Ev (fun k => impl_Console_put.f k ns ls fr b) (true, ns', ls')) : Ev (fun k => impl_Console_carry.f k ns ls wd fr p bi n li) (tx, true, ns', ls') := by
 unfold impl_Console_carry.f
 refine Ev.cond (fun h' => absurd h' hw.1) (fun _ => Ev.cond (fun h' => absurd h' hw.2.1) (fun _ => Ev.cond (fun h' => absurd h' hw.2.2.1) (fun _ => Ev.cond (fun h' => absurd h' hw.2.2.2.1) (fun _ => Ev.cond (fun h' => absurd h' hw.2.2.2.2) (fun _ => ?_)))))
 exact Ev.bind hm (Ev.cond (fun _ => Ev.bind hp (Ev.now _)) (fun h' => absurd (by trivial) h'))
def noneB (b : ByteArray) : ByteArray := if b.toList = ([] : List UInt8) then (⟨#[110, 111, 110, 101]⟩ : ByteArray) else b
theorem ca_show {ns ls : List ByteArray} {fr : ByteArray} {p : Int} {bi : ByteArray} {n li : List Int} : Ev (fun k => impl_Console_carry.f k ns ls (⟨#[115, 104, 111, 119]⟩ : ByteArray) fr p bi n li) (noneB bi, true, ns, ls) := by
 unfold impl_Console_carry.f
 refine Ev.cond (fun h' => absurd h' (nT (by decide))) (fun _ => Ev.cond (fun _ => ?_) (fun h' => absurd (yT rfl) h'))
 have e : impl_orNone.f bi = some (noneB bi) := by
  unfold impl_orNone.f noneB
  split <;> rfl
 exact Ev.bind (Ev.const e) (Ev.now _)
theorem ca_data {ns ls : List ByteArray} {fr : ByteArray} {p : Int} {bi : ByteArray} {n li : List Int} {tx : ByteArray} (h : Ev (fun k => impl_decoded.f k fr p bi n li) (tx, true)) : Ev (fun k => impl_Console_carry.f k ns ls (⟨#[100, 97, 116, 97]⟩ : ByteArray) fr p bi n li) (tx, true, ns, ls) := by
 unfold impl_Console_carry.f
 refine Ev.cond (fun h' => absurd h' (nT (by decide))) (fun _ => Ev.cond (fun h' => absurd h' (nT (by decide))) (fun _ => Ev.cond (fun h' => absurd h' (nT (by decide))) (fun _ => Ev.cond (fun _ => ?_) (fun h' => absurd (yT rfl) h'))))
 exact Ev.bind h (Ev.now _)
theorem ca_verify {ns ls : List ByteArray} {fr : ByteArray} {p : Int} {bi : ByteArray} {n li : List Int} (hn : 0 < n.length) (h : Ev (fun k => impl_HasCheck.f k (rd n 0) bi) true) : Ev (fun k => impl_Console_carry.f k ns ls (⟨#[118, 101, 114, 105, 102, 121]⟩ : ByteArray) fr p bi n li) ((⟨#[121, 101, 115]⟩ : ByteArray), true, ns, ls) := by
 unfold impl_Console_carry.f
 refine Ev.cond (fun h' => absurd h' (nT (by decide))) (fun _ => Ev.cond (fun h' => absurd h' (nT (by decide))) (fun _ => Ev.cond (fun h' => absurd h' (nT (by decide))) (fun _ => Ev.cond (fun h' => absurd h' (nT (by decide))) (fun _ => Ev.cond (fun _ => ?_) (fun h' => absurd (yT rfl) h')))))
 refine Ev.cond (fun _ => ?_) (fun h' => absurd (by omega) h')
 exact Ev.bind h (Ev.cond (fun _ => Ev.now _) (fun h' => absurd (by trivial) h'))
def flipT (b : ByteArray) (m : Nat) : ByteArray := (b.extract 0 m ++ oppS (b.extract m (m + 1))) ++ b.extract (m + 1) b.size
theorem ca_flip {ns ls : List ByteArray} {fr : ByteArray} {j m : Nat} {bi : ByteArray} {n li : List Int} (hn : 0 < n.length) (hm : rd n 0 = (m : Int)) (hmb : m < bi.size) (hb : bi.size ≤ 400) (hj : j < ls.length) : Ev (fun k => impl_Console_carry.f k ns ls (⟨#[102, 108, 105, 112]⟩ : ByteArray) fr (j : Int) bi n li) ((⟨#[111, 107]⟩ : ByteArray), true, ns, ls.set j (flipT bi m)) := by
 unfold impl_Console_carry.f
 refine Ev.cond (fun h' => absurd h' (nT (by decide))) (fun _ => Ev.cond (fun h' => absurd h' (nT (by decide))) (fun _ => Ev.cond (fun _ => ?_) (fun h' => absurd (yT rfl) h')))
 refine Ev.cond (fun _ => ?_) (fun h' => absurd (by omega) h')
 rw [hm]
 refine Ev.bind (Ev.const (within_eq _ _ _)) (Ev.cond (fun _ => ?_) (fun h' => absurd (decide_eq_true (by rw [w64 (by omega) (by omega)]; omega)) h'))
 rw [Int.toNat_natCast, Int.toNat_natCast]
 have hx : (bi.extract m (m + 1)).size = 1 := by rw [ByteArray.size_extract]; omega
 refine Ev.cond (fun _ => ?_) (fun h' => absurd ⟨by omega, by omega, by omega, by omega, by omega⟩ h')
 refine Ev.bind (opposite_ev _ (by omega)) (Ev.cond (fun _ => Ev.now _) (fun h' => absurd (by rw [oppS_size]; omega) h'))
theorem put_ev {ns ls : List ByteArray} {name bits : ByteArray} {j : Nat} {f : Bool} {ns' ls' : List ByteArray} (hs : Ev (fun k => slices_BinarySearch_string_string.f k ns name) ((j : Int), f)) (hl : ls.length = ns.length) (hn : ns.length ≤ 100) (h1 : f = true → j < ls.length ∧ ns' = ns ∧ ls' = ls.set j bits) (h2 : f = false → j ≤ ns.length ∧ ns' = ns.take j ++ name :: ns.drop j ∧ ls' = ls.take j ++ bits :: ls.drop j) (hc : conB ns' ls' = true) : Ev (fun k => impl_Console_put.f k ns ls name bits) (true, ns', ls') := by
 have hcc := (conB_iff ns' ls').1 hc
 obtain ⟨v1, ev1, hv1⟩ := valid_TP ns' ls' (by omega) (by omega) (fun x hx => by have := con_names_le hc x hx; omega) (fun x hx => by have := (con_lines_le hc x hx).1; omega)
 rw [hv1.trans hc] at ev1
 unfold impl_Console_put.f
 refine Ev.bind hs ?_
 cases f with
 | true =>
  obtain ⟨a, rfl, rfl⟩ := h1 rfl
  refine Ev.cond (fun _ => Ev.cond (fun _ => Ev.cond (fun _ => ?_) (fun h' => absurd (by show (j : Int) < _; omega) h')) (fun h' => absurd (by show 0 ≤ (j : Int); omega) h')) (fun h' => absurd (by trivial) h')
  show Ev (fun k => (impl_ValidConsole.f k ns' (ls.set ((j : Int)).toNat bits)).bind fun t => (some (t, ns', ls.set ((j : Int)).toNat bits))) _
  rw [Int.toNat_natCast]
  exact Ev.bind ev1 (Ev.now _)
 | false =>
  obtain ⟨a, rfl, rfl⟩ := h2 rfl
  refine Ev.cond (fun h' => absurd h' Bool.false_ne_true) (fun _ => Ev.cond (fun _ => ?_) (fun h' => absurd (by show 0 ≤ (j : Int) ∧ (j : Int) ≤ _ ∧ (j : Int) ≤ _ ∧ _; omega) h'))
  show Ev (fun k => (impl_ValidConsole.f k (ns.take ((j : Int)).toNat ++ name :: ns.drop ((j : Int)).toNat) (ls.take ((j : Int)).toNat ++ bits :: ls.drop ((j : Int)).toNat)).bind fun t => (some (t, ns.take ((j : Int)).toNat ++ name :: ns.drop ((j : Int)).toNat, ls.take ((j : Int)).toNat ++ bits :: ls.drop ((j : Int)).toNat))) _
  rw [Int.toNat_natCast]
  exact Ev.bind ev1 (Ev.now _)
theorem pm_cons (M acc : Nat) (c : UInt8) (r : List UInt8) : Lib.parseUintM M acc (c :: r) = if 48 ≤ c.toNat ∧ c.toNat ≤ 57 then (if 1844674407370955162 ≤ acc then .range else if M < acc * 10 + (c.toNat - 48) then .range else Lib.parseUintM M (acc * 10 + (c.toNat - 48)) r) else .syntax := rfl
theorem pm_app (M : Nat) : ∀ (l : List UInt8) (acc a : Nat) (r : List UInt8), Lib.parseUintM M acc l = .ok a → Lib.parseUintM M acc (l ++ r) = Lib.parseUintM M a r
 | [], acc, a, r, h => by
  unfold Lib.parseUintM at h
  injection h with h
  rw [h]; rfl
 | c :: l, acc, a, r, h => by
  rw [List.cons_append]
  rw [pm_cons] at h ⊢
  by_cases h1 : 48 ≤ c.toNat ∧ c.toNat ≤ 57
  ·rw [if_pos h1] at h ⊢
   by_cases h2 : 1844674407370955162 ≤ acc
   ·rw [if_pos h2] at h; exact absurd h (by simp)
   rw [if_neg h2] at h ⊢
   by_cases h3 : M < acc * 10 + (c.toNat - 48)
   ·rw [if_pos h3] at h; exact absurd h (by simp)
   rw [if_neg h3] at h ⊢
   exact pm_app M l _ a r h
  ·rw [if_neg h1] at h; exact absurd h (by simp)
theorem dig_nat (d : Nat) (h : d < 10) : (UInt8.ofNat (48 + d)).toNat = 48 + d := by
 rw [UInt8.toNat_ofNat']; omega
theorem pm_dec (M : Nat) (hM : M ≤ 18446744073709551615) (u : Nat) : u ≤ M → Lib.parseUintM M 0 (Lib.decDigits u) = .ok u := by
 induction u using Nat.strongRecOn with
 | _ u ih =>
  intro hu
  by_cases h : u < 10
  ·rw [Lib.decDigits_one h]
   unfold Lib.parseUintM
   rw [dig_nat u h, if_pos (by omega), if_neg (by omega), if_neg (by omega)]
   unfold Lib.parseUintM
   exact congrArg _ (by omega)
  ·rw [Lib.decDigits, dif_neg h, pm_app M _ 0 (u / 10) _ (ih (u / 10) (by omega) (by omega))]
   unfold Lib.parseUintM
   rw [dig_nat (u % 10) (by omega), if_pos (by omega), if_neg (by omega), if_neg (by omega)]
   unfold Lib.parseUintM
   exact congrArg _ (by omega)
theorem dec_mem (u : Nat) : ∀ b ∈ Lib.decDigits u, 48 ≤ b.toNat ∧ b.toNat ≤ 57 := by
 induction u using Nat.strongRecOn with
 | _ u ih =>
  intro b hb
  by_cases h : u < 10
  ·rw [Lib.decDigits_one h, List.mem_singleton] at hb
   rw [hb, dig_nat u h]; omega
  ·rw [Lib.decDigits, dif_neg h] at hb
   rcases List.mem_append.1 hb with hb | hb
   ·exact ih _ (by omega) b hb
   ·rw [List.mem_singleton.1 hb, dig_nat _ (by omega)]; omega
theorem rdInt_dec (n : Nat) (hn : n ≤ 1000000000000000) : rdInt (decS (n : Int)) = ((n : Int), true) := by
 have e : Lib.itoa (n : Int) = Lib.decDigits n := Lib.itoa_nonneg n
 have hp : Lib.parseIntB 64 (Lib.decDigits n) = .ok (n : Int) := by
  have hu : Lib.parseUintB 64 (Lib.decDigits n) = .ok n := by
   have hne : Lib.decDigits n ≠ [] := fun h => by
    have := Lib.nDigits_pos n
    rw [← Lib.decDigits_length, h] at this
    exact absurd this (by decide)
   unfold Lib.parseUintB
   rw [if_neg hne]
   exact pm_dec _ (by decide) n (Nat.le_trans hn (by decide))
  generalize hl : Lib.decDigits n = l at hu
  cases l with
  | nil => exact absurd hu (by simp [Lib.parseUintB])
  | cons c r =>
   have hc := dec_mem n c (by rw [hl]; exact List.mem_cons_self)
   rw [Lib.parseIntB_plain 64 c r (by omega) (by omega), hu]
   unfold Lib.signlessC
   simp only []
   rw [if_neg (by
    have : n < 2 ^ (64 - 1) := Nat.lt_of_le_of_lt hn (by decide)
    omega)]
 unfold rdInt decS
 rw [ofL_data, e, hp]
 simp only []
 rw [if_pos ⟨⟨by omega, by omega⟩, by rw [e]; rfl⟩]
theorem dec_no (n : Nat) : (32 : UInt8) ∉ Lib.itoa (n : Int) ∧ (10 : UInt8) ∉ Lib.itoa (n : Int) := by
 rw [Lib.itoa_nonneg n]
 refine ⟨fun h => ?_, fun h => ?_⟩
 ·have := dec_mem n _ h
  exact absurd this (by decide)
 ·have := dec_mem n _ h
  exact absurd this (by decide)
def d4 (ds : List Int) : Prop := ∀ x ∈ ds, 0 ≤ x ∧ x < 4
def bL (ds : List Int) : List UInt8 := ds.flatMap fun x => (sn W24 x.toNat).data.toList
theorem bL_cons (x : Int) (ds : List Int) : bL (x :: ds) = (sn W24 x.toNat).data.toList ++ bL ds := rfl
theorem w24_len : ∀ m, m < 4 → (sn W24 m).size = 4 ∧ impl_stateBehind.f (-1) (sn W24 m) = some (-1) ∧ (sn W24 m).data.toList.all isBitB = true := by decide +kernel
theorem bL_len {ds : List Int} (h : d4 ds) : (bL ds).length = 4 * ds.length := by
 induction ds with
 | nil => rfl
 | cons x ds ih =>
  have hx := h x List.mem_cons_self
  rw [bL_cons, List.length_append, ih (fun y hy => h y (List.mem_cons_of_mem _ hy)), size_data, (w24_len x.toNat (by omega)).1, List.length_cons]; omega
theorem bL_bits {ds : List Int} (h : d4 ds) : (bL ds).all isBitB = true := by
 induction ds with
 | nil => rfl
 | cons x ds ih =>
  have hx := h x List.mem_cons_self
  rw [bL_cons, List.all_append, ih (fun y hy => h y (List.mem_cons_of_mem _ hy)), (w24_len x.toNat (by omega)).2.2]; rfl
theorem d4_rd {ds : List Int} (h : d4 ds) {n : Nat} (hn : n < ds.length) : ∃ m : Nat, m < 4 ∧ rd ds (n : Int) = (m : Int) ∧ ds.drop n = (m : Int) :: ds.drop (n + 1) := by
 have e : rd ds (n : Int) = ds[n] := by
  unfold rd
  rw [Int.toNat_natCast, List.getD_eq_getElem?_getD, List.getElem?_eq_getElem hn]; rfl
 have hx := h _ (List.getElem_mem hn)
 obtain ⟨m, hm⟩ := Int.eq_ofNat_of_zero_le hx.1
 refine ⟨m, by omega, e.trans hm, ?_⟩
 rw [List.drop_eq_getElem_cons hn, hm]
theorem enc24_l0 (ds : List Int) (h : d4 ds) (hl : ds.length ≤ 100) : ∀ d n (out : ByteArray), n + d = ds.length → out.size ≤ 4 * n → Ev (fun k => impl_EncodeBlocks.l0 k W24 W24 ds out (-1) (n : Int)) (out ++ ofL (bL (ds.drop n)), -1, true) := by
 intro d
 induction d with
 | zero =>
  intro n out hn ho
  rw [List.drop_eq_nil_of_le (by omega)]
  have e : out ++ ofL (bL []) = out := ByteArray.append_empty
  rw [e]
  apply Ev.succ
  simp only [impl_EncodeBlocks.l0]
  exact Ev.cond (fun h' => absurd h' (by omega)) (fun _ => Ev.now _)
 | succ d ih =>
  intro n out hn ho
  obtain ⟨m, hm, er, ed⟩ := d4_rd h (show n < ds.length by omega)
  have hw := w24_len m hm
  apply Ev.succ
  simp only [impl_EncodeBlocks.l0, er, sr_nat, w64_succ (show n < 9223372036854775807 by omega), ite_self]
  refine Ev.cond (fun _ => ?_) (fun h' => absurd (by omega) h')
  refine Ev.cond (fun _ => ?_) (fun h' => absurd (by omega) h')
  refine Ev.cond (fun _ => ?_) (fun h' => absurd (by omega) h')
  refine Ev.cond (fun _ => ?_) (fun h' => absurd (by show (m : Int) < ((4 : Nat) : Int); omega) h')
  refine Ev.cond (fun _ => ?_) (fun h' => absurd ⟨by omega, by omega⟩ h')
  refine Ev.bind (Ev.const hw.2.1) ?_
  have := ih (n + 1) (out ++ sn W24 m) (by omega) (by rw [ByteArray.size_append]; omega)
  rw [ed, bL_cons, Int.toNat_natCast, ← ofL_app, ofL_of, ← ByteArray.append_assoc]
  exact this
theorem shl24 : wrap64 ((shl .i64 1 2) - 1) = 3 := by decide +kernel
theorem enc24 (ds : List Int) (h : d4 ds) (hl : ds.length ≤ 100) : Ev (fun k => impl_EncodeBlocks.f k 2 4 W24 W24 (-1) ds) (ofL (bL ds), -1, true) := by
 unfold impl_EncodeBlocks.f
 refine Ev.bind vb24 (Ev.cond (fun _ => Ev.cond (fun _ => ?_) (fun h' => absurd (by decide) h')) (fun h' => absurd rfl h'))
 refine Ev.bind (Ev.const (lineState_eq _)) (Ev.cond (fun _ => ?_) (fun h' => absurd (by decide) h'))
 rw [shl24]
 have hin : inAll 0 3 ds = true := by
  unfold inAll
  rw [List.all_eq_true]
  exact fun x hx => decide_eq_true (by have := h x hx; omega)
 refine Ev.bind (areIn_ev 0 3 ds (by omega)) ?_
 rw [hin]
 refine Ev.cond (fun _ => Ev.cond (fun h' => absurd h' (by omega)) (fun _ => ?_)) (fun h' => absurd rfl h')
 have := enc24_l0 ds h hl ds.length 0 (⟨#[]⟩ : ByteArray) (by omega) (Nat.zero_le _)
 rw [List.drop_zero, show (⟨#[]⟩ : ByteArray) ++ ofL (bL ds) = ofL (bL ds) from ByteArray.empty_append] at this
 exact this
theorem idx24 : ∀ m, m < 4 → slices_Index_string_string.f 20 W24 (sn W24 m) = some (m : Int) := by decide +kernel
theorem dec24_l0 : ∀ (es da : List Int), d4 es → es.length ≤ 100 → da.length + es.length ≤ 100 → Ev (fun k => impl_DecodeBlocks.l0 k 4 W24 W24 (ofL (bL es)) (-1) da []) (da ++ es, [], -1, true) := by
 intro es
 induction es with
 | nil =>
  intro da h hl hd
  rw [List.append_nil]
  apply Ev.succ
  simp only [impl_DecodeBlocks.l0]
  exact Ev.cond (fun h' => absurd h' (by decide)) (fun _ => Ev.now _)
 | cons x es ih =>
  intro da h hl hd
  have hx := h x List.mem_cons_self
  obtain ⟨m, rfl⟩ := Int.eq_ofNat_of_zero_le hx.1
  have h2 : d4 es := fun y hy => h y (List.mem_cons_of_mem _ hy)
  have hm : m < 4 := by omega
  have hw := w24_len m hm
  have hwl : (sn W24 m).data.toList.length = 4 := by rw [size_data]; exact hw.1
  have hbl : bL ((m : Int) :: es) = (sn W24 m).data.toList ++ bL es := by rw [bL_cons, Int.toNat_natCast]
  have hsz : (ofL (bL ((m : Int) :: es))).size = 4 + (bL es).length := by rw [ofL_size, hbl, List.length_append, hwl]
  have e1 : (ofL (bL ((m : Int) :: es))).extract 0 ((4 : Int)).toNat = sn W24 m := by
   rw [ofL_ext, hbl]
   show ofL (List.take 4 ((sn W24 m).data.toList ++ bL es)) = _
   rw [List.take_append_of_le_length (by omega), List.take_of_length_le (by omega), ofL_of]
  have e2 : (ofL (bL ((m : Int) :: es))).extract ((4 : Int)).toNat (ofL (bL ((m : Int) :: es))).size = ofL (bL es) := by
   rw [ofL_ext, hsz, hbl]
   show ofL (List.take (4 + (bL es).length - 4) (List.drop 4 ((sn W24 m).data.toList ++ bL es))) = _
   rw [List.drop_append_of_le_length (by omega), List.drop_eq_nil_of_le (by omega), List.nil_append, List.take_of_length_le (by omega)]
  rw [List.length_cons] at hl hd
  apply Ev.succ
  simp only [impl_DecodeBlocks.l0, e1, e2, ite_self]
  refine Ev.cond (fun _ => ?_) (fun h' => absurd (by rw [hsz]; omega) h')
  refine Ev.cond (fun _ => ?_) (fun h' => absurd (by rw [hsz]; omega) h')
  refine Ev.cond (fun _ => ?_) (fun h' => absurd ⟨by omega, by decide⟩ h')
  refine Ev.bind (Ev.of_mono (fun k => slices_Index_string_string.mono _ _ k) 20 (idx24 m hm)) ?_
  refine Ev.cond (fun h' => absurd h' (by omega)) (fun _ => Ev.bind (Ev.const hw.2.1) ?_)
  have := ih (da ++ [(m : Int)]) h2 (by omega) (by rw [List.length_append]; show da.length + 1 + es.length ≤ 100; omega)
  rw [List.append_assoc] at this
  exact this
theorem dec24 (ds : List Int) (h : d4 ds) (hl : ds.length ≤ 100) : Ev (fun k => impl_DecodeBlocks.f k 2 4 W24 W24 (-1) (ofL (bL ds))) (ds, [], -1, true) := by
 unfold impl_DecodeBlocks.f
 have hz : (ofL (bL ds)).size = 4 * ds.length := by rw [ofL_size, bL_len h]
 have hb : bitsB (ofL (bL ds)) = true := by
  unfold bitsB
  rw [ofL_data, bL_bits h, decide_eq_true (show (ofL (bL ds)).size ≤ 400 by omega)]; rfl
 refine Ev.bind vb24 (Ev.cond (fun _ => Ev.cond (fun _ => ?_) (fun h' => absurd (by decide) h')) (fun h' => absurd rfl h'))
 refine Ev.bind (Ev.const (lineState_eq _)) (Ev.cond (fun _ => ?_) (fun h' => absurd (by decide) h'))
 refine Ev.bind (Ev.const (IsBits_eq _ (by omega))) ?_
 rw [hb]
 refine Ev.cond (fun _ => Ev.cond (fun _ => ?_) (fun h' => absurd (by rw [hz]; omega) h')) (fun h' => absurd rfl h')
 have := dec24_l0 ds [] h hl (by simp; omega)
 rw [List.nil_append] at this
 exact this
def listL (ds : List Int) : List UInt8 := if ds = [] then [110, 111, 110, 101] else Lib.join (ds.map Lib.itoa) [44]
theorem itoa4 : ∀ m : Nat, m < 4 → Lib.itoa (m : Int) = [UInt8.ofNat (48 + m)] ∧ rdInt (decS (m : Int)) = ((m : Int), true) := by decide +kernel
theorem joinT_dec (ds : List Int) : joinT (ds.map decS) (⟨#[44]⟩ : ByteArray) = ofL (Lib.join (ds.map Lib.itoa) [44]) := by
 unfold joinT
 rw [List.map_map]
 show ofL (Lib.join (ds.map ((·.data.toList) ∘ decS)) [44]) = _
 congr 2
theorem lt24_l0 (ds : List Int) (h : d4 ds) (hl : ds.length ≤ 64) : ∀ d n, n + d = ds.length → Ev (fun k => impl_listText.l0 k ((ds.take n).map decS) ds (ds.length : Int) (n : Int)) (ofL (Lib.join (ds.map Lib.itoa) [44])) := by
 intro d
 induction d with
 | zero =>
  intro n hn
  rw [List.take_of_length_le (by omega)]
  apply Ev.succ
  simp only [impl_listText.l0]
  refine Ev.cond (fun h' => absurd h' (by omega)) (fun _ => Ev.bind (Ev.const (r := joinT (ds.map decS) (⟨#[44]⟩ : ByteArray)) ?_) ?_)
  ·unfold strings_Join.f
   have hj := join_len (ds.map decS) (fun x hx => by
    obtain ⟨y, hy, rfl⟩ := List.mem_map.1 hx
    have := h y hy
    exact dec_size y (by omega) (by omega))
   rw [List.length_map] at hj
   rw [if_pos ⟨by rw [List.length_map]; omega, by omega⟩]
  ·rw [joinT_dec]; exact Ev.now _
 | succ d ih =>
  intro n hn
  obtain ⟨m, hm, er, ed⟩ := d4_rd h (show n < ds.length by omega)
  apply Ev.succ
  simp only [impl_listText.l0, er, w64_succ (show n < 9223372036854775807 by omega)]
  refine Ev.cond (fun _ => ?_) (fun h' => absurd (by omega) h')
  refine Ev.cond (fun _ => ?_) (fun h' => absurd (by omega) h')
  refine Ev.cond (fun _ => ?_) (fun h' => absurd (by omega) h')
  refine Ev.bind (Ev.const (Decimal_eq (m : Int) (by omega) (by omega))) (Ev.cond (fun _ => ?_) (fun h' => absurd (by rw [List.length_map, List.length_take]; omega) h'))
  have := ih (n + 1) (by omega)
  rw [List.take_succ_eq_append_getElem (by omega), List.map_append] at this
  have e2 : ds[n] = (m : Int) := by
   rw [List.drop_eq_getElem_cons (show n < ds.length by omega)] at ed
   exact (List.cons.inj ed).1
  rw [show List.map decS [ds[n]] = [decS (m : Int)] by rw [e2]; rfl] at this
  exact this
theorem lt24 (ds : List Int) (h : d4 ds) (hl : ds.length ≤ 64) : Ev (fun k => impl_ListText.f k ds) (ofL (listL ds), true) := by
 unfold impl_ListText.f
 have hin : inAll (-1000000000000000) 1000000000000000 ds = true := by
  unfold inAll
  rw [List.all_eq_true]
  exact fun x hx => decide_eq_true (by have := h x hx; omega)
 refine Ev.cond (fun h' => absurd h' (by omega)) (fun _ => Ev.bind (areIn_ev _ _ ds (by omega)) ?_)
 rw [hin]
 refine Ev.cond (fun _ => ?_) (fun h' => absurd rfl h')
 refine Ev.bind (a := ofL (listL ds)) ?_ (Ev.now _)
 unfold impl_listText.f listL
 by_cases e : ds = []
 ·rw [if_pos e]
  exact Ev.cond (fun _ => Ev.now _) (fun h' => absurd (by rw [e]; rfl) h')
 ·rw [if_neg e]
  refine Ev.cond (fun h' => absurd (List.length_eq_zero_iff.1 (by omega)) e) (fun _ => ?_)
  exact lt24_l0 ds h hl ds.length 0 (by omega)
theorem splitL_cut (c : UInt8) : ∀ (x l : List UInt8), c ∉ x → splitL c (x ++ c :: l) = x :: splitL c l
 | [], l, _ => by rw [List.nil_append, splitL, if_pos rfl]
 | b :: x, l, h => by
  rw [List.cons_append, splitL, if_neg (fun e => h (by rw [e]; exact List.mem_cons_self)), splitL_cut c x l (fun h2 => h (List.mem_cons_of_mem _ h2))]; rfl
theorem splitL_no (c : UInt8) : ∀ (x : List UInt8), c ∉ x → splitL c x = [x]
 | [], _ => rfl
 | b :: x, h => by
  rw [splitL, if_neg (fun e => h (by rw [e]; exact List.mem_cons_self)), splitL_no c x (fun h2 => h (List.mem_cons_of_mem _ h2))]; rfl
theorem splitL_join (c : UInt8) : ∀ (xs : List (List UInt8)), xs ≠ [] → (∀ x ∈ xs, c ∉ x) → splitL c (Lib.join xs [c]) = xs
 | [], h, _ => absurd rfl h
 | [x], _, h => by rw [Lib.join_one]; exact splitL_no c x (h x List.mem_cons_self)
 | x :: y :: r, _, h => by
  have e : Lib.join (x :: y :: r) [c] = x ++ c :: Lib.join (y :: r) [c] := by simp [Lib.join, List.intercalate]
  rw [e, splitL_cut c x _ (h x List.mem_cons_self), splitL_join c (y :: r) (by simp) (fun z hz => h z (List.mem_cons_of_mem _ hz))]
theorem itoa_d4 {ds : List Int} (h : d4 ds) : ∀ l ∈ ds.map Lib.itoa, ∃ m, m < 4 ∧ l = [UInt8.ofNat (48 + m)] := by
 intro l hl
 obtain ⟨y, hy, rfl⟩ := List.mem_map.1 hl
 have h1 := h y hy
 obtain ⟨m, rfl⟩ := Int.eq_ofNat_of_zero_le h1.1
 exact ⟨m, by omega, (itoa4 m (by omega)).1⟩
theorem join_mem (c b : UInt8) : ∀ (xs : List (List UInt8)), b ∈ Lib.join xs [c] → b = c ∨ ∃ x ∈ xs, b ∈ x
 | [], h => absurd h (by simp [Lib.join, List.intercalate])
 | [x], h => .inr ⟨x, List.mem_cons_self, by rwa [Lib.join_one] at h⟩
 | x :: y :: r, h => by
  have e : Lib.join (x :: y :: r) [c] = x ++ c :: Lib.join (y :: r) [c] := by simp [Lib.join, List.intercalate]
  rw [e] at h
  rcases List.mem_append.1 h with h | h
  ·exact .inr ⟨x, List.mem_cons_self, h⟩
  ·rcases List.mem_cons.1 h with h | h
   ·exact .inl h
   ·rcases join_mem c b (y :: r) h with h | ⟨z, hz, h⟩
    ·exact .inl h
    ·exact .inr ⟨z, List.mem_cons_of_mem _ hz, h⟩
theorem dig4 : ∀ m, m < 4 → UInt8.ofNat (48 + m) ≠ 44 ∧ UInt8.ofNat (48 + m) ≠ 32 ∧ UInt8.ofNat (48 + m) ≠ 10 ∧ UInt8.ofNat (48 + m) ≠ 110 := by decide +kernel
theorem listL_no {ds : List Int} (h : d4 ds) : (32 : UInt8) ∉ listL ds ∧ (10 : UInt8) ∉ listL ds := by
 unfold listL
 by_cases e : ds = []
 ·rw [if_pos e]; exact ⟨by decide, by decide⟩
 ·rw [if_neg e]
  refine ⟨fun hb => ?_, fun hb => ?_⟩
  ·rcases join_mem 44 32 _ hb with h1 | ⟨x, hx, h1⟩
   ·exact absurd h1 (by decide)
   ·obtain ⟨m, hm, rfl⟩ := itoa_d4 h x hx
    exact (dig4 m hm).2.1 (List.mem_singleton.1 h1).symm
  ·rcases join_mem 44 10 _ hb with h1 | ⟨x, hx, h1⟩
   ·exact absurd h1 (by decide)
   ·obtain ⟨m, hm, rfl⟩ := itoa_d4 h x hx
    exact (dig4 m hm).2.2.1 (List.mem_singleton.1 h1).symm
theorem join1_len : ∀ ws : List (List UInt8), (∀ x ∈ ws, x.length = 1) → (Lib.join ws [44]).length ≤ 2 * ws.length
 | [], _ => Nat.zero_le _
 | [x], h => by rw [Lib.join_one]; have := h x List.mem_cons_self; show _ ≤ 2; omega
 | x :: y :: r, h => by
  have e : Lib.join (x :: y :: r) [44] = x ++ 44 :: Lib.join (y :: r) [44] := by simp [Lib.join, List.intercalate]
  have h1 := h x List.mem_cons_self
  have h2 := join1_len (y :: r) (fun z hz => h z (List.mem_cons_of_mem _ hz))
  rw [e, List.length_append, List.length_cons, List.length_cons]
  omega
theorem listL_len {ds : List Int} (h : d4 ds) : (listL ds).length ≤ 2 * ds.length + 4 := by
 unfold listL
 by_cases e : ds = []
 ·rw [if_pos e]; show 4 ≤ _; omega
 ·rw [if_neg e]
  have hj := join1_len (ds.map Lib.itoa) (fun x hx => by
   obtain ⟨m, hm, rfl⟩ := itoa_d4 h x hx
   rfl)
  rw [List.length_map] at hj
  omega
theorem rl24_l0 (ds : List Int) (h : d4 ds) (hl : ds.length ≤ 64) : ∀ d n, n + d = ds.length → Ev (fun k => impl_ReadList.l0 k (ds.take n) (ds.map decS) ((ds.map decS).length : Int) (n : Int)) (ds, true) := by
 intro d
 induction d with
 | zero =>
  intro n hn
  rw [List.take_of_length_le (by omega)]
  apply Ev.succ
  simp only [impl_ReadList.l0]
  exact Ev.cond (fun h' => absurd h' (by rw [List.length_map]; omega)) (fun _ => Ev.now _)
 | succ d ih =>
  intro n hn
  obtain ⟨m, hm, er, ed⟩ := d4_rd h (show n < ds.length by omega)
  have e2 : ds[n] = (m : Int) := by
   rw [List.drop_eq_getElem_cons (show n < ds.length by omega)] at ed
   exact (List.cons.inj ed).1
  have e3 : sn (ds.map decS) n = decS (m : Int) := by
   rw [sn_get (by rw [List.length_map]; omega), List.getElem_map, e2]
  apply Ev.succ
  simp only [impl_ReadList.l0, sr_nat, e3, w64_succ (show n < 9223372036854775807 by omega)]
  refine Ev.cond (fun _ => ?_) (fun h' => absurd (by rw [List.length_map]; omega) h')
  refine Ev.cond (fun _ => ?_) (fun h' => absurd (by omega) h')
  refine Ev.cond (fun _ => ?_) (fun h' => absurd (by rw [List.length_map]; omega) h')
  refine Ev.bind (Ev.const ((readDec_eq _ (by have := dec_size (m : Int) (by omega) (by omega); omega)).trans (congrArg some (itoa4 m hm).2))) ?_
  refine Ev.cond (fun _ => ?_) (fun h' => absurd rfl h')
  refine Ev.cond (fun h' => absurd h' (by rw [List.length_take]; omega)) (fun _ => ?_)
  refine Ev.cond (fun _ => ?_) (fun h' => absurd (by rw [List.length_take]; omega) h')
  have := ih (n + 1) (by omega)
  rw [List.take_succ_eq_append_getElem (by omega), e2] at this
  exact this
theorem rl24 (ds : List Int) (h : d4 ds) (hl : ds.length ≤ 64) : Ev (fun k => impl_ReadList.f k (ofL (listL ds))) (ds, true) := by
 unfold impl_ReadList.f
 simp only [Option.bind_some]
 have hz := listL_len h
 by_cases e : ds = []
 ·subst e
  exact Ev.cond (fun _ => Ev.now _) (fun h' => absurd (by rw [ofL_list]; rfl) h')
 ·refine Ev.cond (fun h' => ?_) (fun _ => ?_)
  ·exfalso
   rw [ofL_list] at h'
   have hs := splitL_join 44 (ds.map Lib.itoa) (by simpa using e) (fun x hx hb => by
    obtain ⟨m, hm, rfl⟩ := itoa_d4 h x hx
    exact (dig4 m hm).1 (List.mem_singleton.1 hb).symm)
   unfold listL at h'
   rw [if_neg e] at h'
   rw [h'] at hs
   have h2 : [110, 111, 110, 101] ∈ ds.map Lib.itoa := by rw [← hs]; decide
   obtain ⟨m, hm, e3⟩ := itoa_d4 h _ h2
   exact absurd (congrArg List.length e3) (show ¬ (4 : Nat) = 1 by decide)
  ·have hsp := split_eq (ofL (listL ds)) 44 Qb1_
   have hs : splitL 44 (ofL (listL ds)).data.toList = ds.map Lib.itoa := by
    rw [ofL_data]
    unfold listL
    rw [if_neg e]
    exact splitL_join 44 (ds.map Lib.itoa) (by simpa using e) (fun x hx hb => by
     obtain ⟨m, hm, rfl⟩ := itoa_d4 h x hx
     exact (dig4 m hm).1 (List.mem_singleton.1 hb).symm)
   rw [hs, List.map_map] at hsp
   exact Ev.bind (Ev.const hsp) (rl24_l0 ds h hl ds.length 0 (by omega))
def bv (c : UInt8) : Nat := if c = 49 then 1 else 0
theorem bv_xor {x y : UInt8} (hx : bitU x) (hy : bitU y) : bv (if x = y then 48 else 49) = bv x ^^^ bv y := by
 rcases hx with rfl | rfl <;> rcases hy with rfl | rfl <;> decide
theorem remN_cons (p : Nat) (c : UInt8) (l : List UInt8) (r : Nat) : remN p (c :: l) r = remN p l (T p r ^^^ bv c) := rfl
theorem bv_lt {p : Nat} (h1 : 2 ≤ p) (h2 : p < 2 ^ 64) (c : UInt8) : bv c < 2 ^ deg p := by
 have hd := deg_pos h1 h2
 have hp2 : 2 ≤ 2 ^ deg p := by
  have := Nat.pow_le_pow_right (show 0 < 2 by decide) hd
  simpa using this
 unfold bv; split <;> omega
theorem remN_xor {p : Nat} (h1 : 2 ≤ p) (h2 : p < 2 ^ 64) : ∀ (a b : List UInt8), a.length = b.length → (∀ c ∈ a, bitU c) → (∀ c ∈ b, bitU c) → ∀ r s : Nat, r < 2 ^ deg p → s < 2 ^ deg p →
 remN p (xorB a b) (r ^^^ s) = remN p a r ^^^ remN p b s := by
 intro a
 induction a with
 | nil =>
  intro b h _ _ r s _ _
  obtain rfl : b = [] := List.eq_nil_of_length_eq_zero h.symm
  rfl
 | cons x a ih =>
  intro b h ha hb r s hr hs
  cases b with
  | nil => exact absurd h (by simp)
  | cons y b =>
   have e := bv_xor (ha x List.mem_cons_self) (hb y List.mem_cons_self)
   simp only [xorB]
   rw [remN_cons, remN_cons, remN_cons, e, T_xor hr hs, show T p r ^^^ T p s ^^^ (bv x ^^^ bv y) = (T p r ^^^ bv x) ^^^ (T p s ^^^ bv y) by ac_rfl]
   exact ih b (by simpa using h) (fun c hc => ha c (List.mem_cons_of_mem _ hc)) (fun c hc => hb c (List.mem_cons_of_mem _ hc)) _ _ (Nat.xor_lt_two_pow (T_lt h1 h2 hr) (bv_lt h1 h2 x)) (Nat.xor_lt_two_pow (T_lt h1 h2 hs) (bv_lt h1 h2 y))
theorem remN_append (p : Nat) (a b : List UInt8) : ∀ r, remN p (a ++ b) r = remN p b (remN p a r) := by
 induction a with
 | nil => intro r; rfl
 | cons x a ih => intro r; rw [List.cons_append, remN_cons, remN_cons, ih]
theorem remN_zeros (p : Nat) : ∀ (n r : Nat), remN p (List.replicate n 48) r = iterT p n r := by
 intro n
 induction n with
 | zero => intro r; rfl
 | succ n ih => intro r; rw [List.replicate_succ, remN_cons, show bv 48 = 0 by decide, Nat.xor_zero, ih]; rfl
theorem T_small {p r : Nat} (h : 2 * r < 2 ^ deg p) : T p r = 2 * r := by
 unfold T
 rw [Nat.div_eq_of_lt h, if_neg (by decide)]
theorem mod_split (x n : Nat) : x % 2 ^ (n + 1) = x / 2 ^ n % 2 * 2 ^ n + x % 2 ^ n := by
 rw [Nat.pow_succ, Nat.mod_mul, Nat.mul_comm (2 ^ n), Nat.add_comm]
theorem remN_dg {p : Nat} (x : Nat) : ∀ (n m r : Nat), n + m = deg p → r < 2 ^ m → remN p (dgB x n) r = r * 2 ^ n + x % 2 ^ n := by
 intro n
 induction n with
 | zero => intro m r _ _; simp [dgB, remN, Nat.mod_one]
 | succ n ih =>
  intro m r h hr
  have hp : 2 ^ (m + 1) = 2 * 2 ^ m := by rw [Nat.pow_succ, Nat.mul_comm]
  have h2 : 2 * r < 2 ^ deg p := by
   have : 2 ^ (m + 1) ≤ 2 ^ deg p := Nat.pow_le_pow_right (by decide) (by omega)
   omega
  have eb : bv (if x / 2 ^ n % 2 = 1 then 49 else 48) = x / 2 ^ n % 2 := by
   have : x / 2 ^ n % 2 < 2 := Nat.mod_lt _ (by decide)
   by_cases hc : x / 2 ^ n % 2 = 1
   ·rw [if_pos hc, hc]; decide
   ·rw [if_neg hc]; rw [show x / 2 ^ n % 2 = 0 by omega]; decide
  have hb : x / 2 ^ n % 2 < 2 := Nat.mod_lt _ (by decide)
  rw [dgB, remN_cons, eb, T_small h2, dbl_xor hb, ih (m + 1) _ (by omega) (by omega), mod_split, Nat.add_mul, Nat.pow_succ, Nat.mul_comm 2 r, Nat.mul_assoc, Nat.mul_comm 2 (2 ^ n)]
  omega
theorem xorB_zeros (a : List UInt8) (h : ∀ c ∈ a, bitU c) : xorB (List.replicate a.length 48) a = a := by
 induction a with
 | nil => rfl
 | cons x a ih =>
  rw [List.length_cons, List.replicate_succ]
  simp only [xorB]
  rw [ih (fun c hc => h c (List.mem_cons_of_mem _ hc))]
  rcases h x List.mem_cons_self with rfl | rfl <;> rfl
theorem dgB_bitU (x n : Nat) : ∀ c ∈ dgB x n, bitU c := by
 induction n with
 | zero => intro c hc; exact absurd hc (by simp [dgB])
 | succ n ih =>
  intro c hc
  rw [dgB] at hc
  rcases List.mem_cons.1 hc with rfl | hc
  ·by_cases h : x / 2 ^ n % 2 = 1
   ·rw [if_pos h]; exact .inr rfl
   ·rw [if_neg h]; exact .inl rfl
  ·exact ih c hc
theorem check_zero {p : Nat} (h1 : 2 ≤ p) (h2 : p < 2 ^ 64) (a : List UInt8) : remN p (a ++ dgB (iterT p (deg p) (remN p a 0)) (deg p)) 0 = 0 := by
 have hr := remN_lt h1 h2 a 0 (Nat.two_pow_pos _)
 have hc := iterT_lt' h1 h2 (deg p) _ hr
 rw [remN_append]
 generalize remN p a 0 = r at *
 generalize hC : iterT p (deg p) r = c at *
 have hb := dgB_bitU c (deg p)
 have e := xorB_zeros (dgB c (deg p)) hb
 rw [dgB_length] at e
 have hz : ∀ x ∈ List.replicate (deg p) (48 : UInt8), bitU x := fun x hx => .inl (List.eq_of_mem_replicate hx)
 have h := remN_xor h1 h2 (List.replicate (deg p) 48) (dgB c (deg p)) (by rw [List.length_replicate, dgB_length]) hz hb r 0 hr (Nat.two_pow_pos _)
 rw [e, Nat.xor_zero, remN_zeros, hC, remN_dg c (deg p) 0 0 (by omega) (by simp), Nat.zero_mul, Nat.zero_add, Nat.mod_eq_of_lt hc, Nat.xor_self] at h
 exact h
theorem bitsB_allT {s : ByteArray} (h : s.data.toList.all isBitB = true) (hs : s.size ≤ 400) : bitsB s = true := by unfold bitsB; rw [h, decide_eq_true hs]; rfl
theorem place_leT (r c N i : Nat) (hN : r * c = N) (h : i < N) : place c r i < N := by
 subst hN
 have := place_lt (r := c) (c := r) (i := i) (by rw [Nat.mul_comm]; exact h)
 rw [Nat.mul_comm c r] at this
 exact this
theorem bt_ilvT (s : ByteArray) (g : Nat → Nat) (N k : Nat) (hk : k < N) : bt (strOfNums (pre (fun j => bt s (g j : Nat)) N)) (k : Int) = bt s (g k : Nat) := by
 have hk' : k < (pre (fun j => bt s (g j : Nat)) N).length := by rw [pre_length]; exact hk
 have e : (pre (fun j => bt s (g j : Nat)) N)[k]'hk' = bt s (g k : Nat) := by simp [pre]
 rw [bt_str hk' (by rw [e]; exact bt_range _ _), e]
theorem fitsT {r c N : Nat} (hN : r * c = N) (hN2 : N ≤ 400) (hr : 1 ≤ r) (hr2 : r ≤ 20) (hc : 1 ≤ c) (hc2 : c ≤ 20) {s : ByteArray} (hs : s.size = N) (hall : s.data.toList.all isBitB = true) : fitsB (r : Int) (c : Int) s = true := by
 unfold fitsB bitsB
 rw [hall, decide_eq_true (show 1 ≤ (r : Int) ∧ (r : Int) ≤ 20 by omega), decide_eq_true (show 1 ≤ (c : Int) ∧ (c : Int) ≤ 20 by omega), decide_eq_true (show s.size ≤ 400 by omega)]
 simp only [Bool.and_self, Bool.true_and, beq_iff_eq]
 rw [hs, ← hN]; push_cast; rfl
theorem lay_back (r c N : Nat) (hN : r * c = N) (hN2 : N ≤ 400) (hr : 1 ≤ r) (hr2 : r ≤ 20) (hc : 1 ≤ c) (hc2 : c ≤ 20) (s : ByteArray) (hs : s.size = N) (hall : s.data.toList.all isBitB = true) :
 ∃ o : ByteArray, Ev (fun k => impl_BlockInterleave.f k (r : Int) (c : Int) s) (o, true) ∧ o.size = N ∧ o.data.toList.all isBitB = true ∧ Ev (fun k => impl_BlockDeinterleave.f k (r : Int) (c : Int) o) (s, true) := by
 have hbi := BI_ev (r : Int) (c : Int) s (by omega)
 rw [if_pos (fitsT hN hN2 hr hr2 hc hc2 hs hall), hs] at hbi
 simp only [Int.toNat_natCast] at hbi
 obtain ⟨o, ho⟩ : ∃ o, o = strOfNums (pre (fun k => bt s (place c r k : Nat)) N) := ⟨_, rfl⟩
 rw [← ho] at hbi
 have hosz : o.size = N := by rw [ho, str_size, pre_length]
 have hob : ∀ k, k < N → bt o (k : Int) = bt s (place c r k : Nat) := fun k hk => by rw [ho]; exact bt_ilvT s (fun k => place c r k) N k hk
 have hoall : o.data.toList.all isBitB = true := by
  rw [all_bits_iff]
  intro k hk
  rw [hob k (by omega)]
  exact (all_bits_iff s).1 hall _ (by rw [hs]; exact place_leT r c N k hN (by omega))
 have hso : ∀ i, i < N → bt o (place r c i : Nat) = bt s (i : Nat) := by
  intro i hi
  have hpl : place r c i < N := by rw [← hN]; exact place_lt (by rw [hN]; omega)
  rw [hob _ hpl, place_inv (by rw [hN]; exact hi)]
 have hcN : c * r = N := by rw [Nat.mul_comm]; exact hN
 have hbd := BI_ev (c : Int) (r : Int) o (by omega)
 rw [if_pos (fitsT hcN hN2 hc hc2 hr hr2 hosz hoall), hosz] at hbd
 simp only [Int.toNat_natCast] at hbd
 have hback : strOfNums (pre (fun k => bt o (place r c k : Nat)) N) = s := by
  apply str_ext
  ·rw [str_size, pre_length, hs]
  ·intro k hk
   rw [str_size, pre_length] at hk
   rw [bt_ilvT o (fun k => place r c k) N k hk, hso k hk]
 rw [hback] at hbd
 refine ⟨o, hbi, hosz, hoall, ?_⟩
 unfold impl_BlockDeinterleave.f
 exact Ev.bind hbd (Ev.now _)
def r3 : List UInt8 → List UInt8
 | [] => []
 | b :: l => b :: b :: b :: r3 l
theorem r3_len : ∀ l, (r3 l).length = 3 * l.length
 | [] => rfl
 | b :: l => by rw [r3, List.length_cons, List.length_cons, List.length_cons, List.length_cons, r3_len l]; omega
theorem r3_bits : ∀ l : List UInt8, l.all isBitB = true → (r3 l).all isBitB = true
 | [], _ => rfl
 | b :: l, h => by
  rw [List.all_cons, Bool.and_eq_true] at h
  rw [r3, List.all_cons, List.all_cons, List.all_cons, r3_bits l h.2, h.1]; rfl
theorem rep3_l0 (s : ByteArray) (hs : s.size ≤ 400) : ∀ d n (o : ByteArray), n + d = s.size → o.size ≤ 3 * n → Ev (fun k => impl_RepeatBits.l0 k s 3 o (s.size : Int) (n : Int)) (o ++ ofL (r3 (s.data.toList.drop n)), true) := by
 intro d
 induction d with
 | zero =>
  intro n o h ho
  rw [List.drop_eq_nil_of_le (by rw [size_data]; omega)]
  have e : o ++ ofL (r3 []) = o := ByteArray.append_empty
  rw [e]
  apply Ev.succ
  simp only [impl_RepeatBits.l0]
  exact Ev.cond (fun h' => absurd h' (by omega)) (fun _ => Ev.now _)
 | succ d ih =>
  intro n o h ho
  have hn : n < s.data.toList.length := by rw [size_data]; omega
  have h1 : (s.extract (n : Int).toNat ((n + 1 : Nat) : Int).toNat).size = 1 := by rw [ByteArray.size_extract, Int.toNat_natCast, Int.toNat_natCast]; omega
  have hx : (s.extract (n : Int).toNat ((n + 1 : Nat) : Int).toNat).data.toList = [s.data.toList[n]] := by
   rw [Int.toNat_natCast, Int.toNat_natCast, ext_data, List.drop_eq_getElem_cons hn, Nat.add_sub_cancel_left]; rfl
  apply Ev.succ
  simp only [impl_RepeatBits.l0, w64_succ (show n < 9223372036854775807 by omega)]
  refine Ev.cond (fun _ => ?_) (fun h' => absurd (by omega) h')
  refine Ev.cond (fun _ => ?_) (fun h' => absurd (by omega) h')
  refine Ev.cond (fun _ => ?_) (fun h' => absurd (by omega) h')
  refine Ev.cond (fun _ => ?_) (fun h' => absurd (by omega) h')
  have hr : strings_Repeat.f (s.extract (n : Int).toNat ((n + 1 : Nat) : Int).toNat) 3 = some (ofL [s.data.toList[n], s.data.toList[n], s.data.toList[n]]) := by
   unfold strings_Repeat.f
   rw [if_pos ⟨by decide, by omega, by rw [h1]; decide⟩, hx]; rfl
  refine Ev.bind (Ev.const hr) (Ev.cond (fun _ => ?_) (fun h' => absurd (by rw [ofL_size]; show o.size + 3 ≤ _; omega) h'))
  have := ih (n + 1) (o ++ ofL [s.data.toList[n], s.data.toList[n], s.data.toList[n]]) (by omega) (by rw [ByteArray.size_append, ofL_size]; show o.size + 3 ≤ _; omega)
  rw [ByteArray.append_assoc, ofL_app] at this
  rw [List.drop_eq_getElem_cons hn]
  exact this
theorem rep3 (s : ByteArray) (hs : s.size ≤ 133) (hb : s.data.toList.all isBitB = true) : Ev (fun k => impl_RepeatBits.f k s 3) (ofL (r3 s.data.toList), true) := by
 have hbb := bitsB_allT hb (by omega)
 unfold impl_RepeatBits.f
 refine Ev.bind (Ev.const (IsBits_eq s (by omega))) ?_
 rw [hbb]
 refine Ev.cond (fun _ => Ev.bind (Ev.const (isVotes_eq 3)) (Ev.cond (fun _ => ?_) (fun h' => absurd (by decide) h'))) (fun h' => absurd rfl h')
 have e : decide ((wrap64 ((s.size : Int) * 3)) > 400) = false := decide_eq_false (by rw [w64 (by omega) (by omega)]; omega)
 rw [e]
 apply Ev.succ
 simp only [impl_RepeatBits.j0]
 refine Ev.cond (fun h' => absurd h' Bool.false_ne_true) (fun _ => ?_)
 have := rep3_l0 s (by omega) s.size 0 (⟨#[]⟩ : ByteArray) (by omega) (Nat.zero_le _)
 rw [List.drop_zero, show (⟨#[]⟩ : ByteArray) ++ ofL (r3 s.data.toList) = ofL (r3 s.data.toList) from ByteArray.empty_append] at this
 exact this
def maj : List UInt8 → List UInt8 → Prop
 | [], [] => True
 | b :: l, x :: y :: z :: r => (impl_bitOf.f (decide ((wrap64 (2 * (((Lib.countByte [x, y, z] 49 : Nat)) : Int))) > 3)) = some (ofL [b])) ∧ maj l r
 | _, _ => False
theorem maj_len : ∀ (l r : List UInt8), maj l r → r.length = 3 * l.length
 | [], [], _ => rfl
 | b :: l, x :: y :: z :: r, h => by
  have := maj_len l r h.2
  simp only [List.length_cons]; omega
theorem maj_r3 : ∀ l : List UInt8, l.all isBitB = true → maj l (r3 l)
 | [], _ => trivial
 | b :: l, h => by
  rw [List.all_cons, Bool.and_eq_true] at h
  refine ⟨?_, maj_r3 l h.2⟩
  have hb : b = 48 ∨ b = 49 := by simpa [isBitB] using h.1
  rcases hb with rfl | rfl <;> decide +kernel
theorem maj_flip : ∀ (l : List UInt8) (m : Nat) (hm : m < (r3 l).length), l.all isBitB = true → maj l ((r3 l).set m (flipU (r3 l)[m]))
 | [], m, hm, _ => absurd hm (by simp [r3])
 | b :: l, m, hm, h => by
  rw [List.all_cons, Bool.and_eq_true] at h
  have hb : b = 48 ∨ b = 49 := by simpa [isBitB] using h.1
  have h0 := maj_r3 l h.2
  match m, hm with
  | 0, hm => exact ⟨show impl_bitOf.f (decide ((wrap64 (2 * (((Lib.countByte [flipU b, b, b] 49 : Nat)) : Int))) > 3)) = some (ofL [b]) by rcases hb with rfl | rfl <;> decide +kernel, h0⟩
  | 1, hm => exact ⟨show impl_bitOf.f (decide ((wrap64 (2 * (((Lib.countByte [b, flipU b, b] 49 : Nat)) : Int))) > 3)) = some (ofL [b]) by rcases hb with rfl | rfl <;> decide +kernel, h0⟩
  | 2, hm => exact ⟨show impl_bitOf.f (decide ((wrap64 (2 * (((Lib.countByte [b, b, flipU b] 49 : Nat)) : Int))) > 3)) = some (ofL [b]) by rcases hb with rfl | rfl <;> decide +kernel, h0⟩
  | m + 3, hm =>
   have hm2 : m < (r3 l).length := by rw [r3] at hm; simp only [List.length_cons] at hm; omega
   exact ⟨(maj_r3 [b] (by rw [List.all_cons, h.1]; rfl)).1, maj_flip l m hm2 h.2⟩
theorem vote3_l0 : ∀ (l r : List UInt8) (o : ByteArray), maj l r → o.size + l.length ≤ 400 → Ev (fun k => impl_VoteBits.l0 k (ofL r) 3 o) (o ++ ofL l, true)
 | [], [], o, _, _ => by
  have e : o ++ ofL [] = o := ByteArray.append_empty
  rw [e]
  apply Ev.succ
  simp only [impl_VoteBits.l0]
  exact Ev.cond (fun _ => Ev.now _) (fun h' => absurd (ofL_list []) h')
 | b :: l, x :: y :: z :: r, o, h, ho => by
  rw [List.length_cons] at ho
  have ih := vote3_l0 l r (o ++ ofL [b]) h.2 (by rw [ByteArray.size_append, ofL_size]; show o.size + 1 + l.length ≤ 400; omega)
  have e1 : (ofL (x :: y :: z :: r)).extract 0 ((3 : Int)).toNat = ofL [x, y, z] := by rw [ofL_ext]; rfl
  have e2 : (ofL (x :: y :: z :: r)).extract ((3 : Int)).toNat (ofL (x :: y :: z :: r)).size = ofL r := by
   rw [ofL_ext, ofL_size]
   show ofL (List.take (r.length + 3 - 3) r) = ofL r
   rw [Nat.add_sub_cancel, List.take_length]
  apply Ev.succ
  simp only [impl_VoteBits.l0, e1, e2]
  refine Ev.cond (fun h' => absurd (congrArg List.length h') (by rw [ofL_list]; simp)) (fun _ => ?_)
  refine Ev.cond (fun _ => ?_) (fun h' => absurd (by decide) h')
  refine Ev.cond (fun _ => ?_) (fun h' => absurd (by rw [ofL_size]; simp only [List.length_cons]; omega) h')
  refine Ev.bind (Ev.const (r := ((Lib.countByte [x, y, z] 49 : Nat) : Int)) rfl) (Ev.bind (Ev.const h.1) (Ev.cond (fun _ => ?_) (fun h' => absurd (by rw [ofL_size]; show o.size + 1 ≤ _; omega) h')))
  rw [ByteArray.append_assoc, ofL_app] at ih
  exact ih
theorem vote3 (l r : List UInt8) (h : maj l r) (hl : l.length ≤ 133) (hb : r.all isBitB = true) : Ev (fun k => impl_VoteBits.f k (ofL r) 3) (ofL l, true) := by
 have hz := maj_len l r h
 have hbb : bitsB (ofL r) = true := bitsB_allT (by rw [ofL_data]; exact hb) Qb1_
 unfold impl_VoteBits.f
 refine Ev.bind (Ev.const (IsBits_eq (ofL r) Qb1_)) ?_
 rw [hbb]
 refine Ev.cond (fun _ => Ev.bind (Ev.const (isVotes_eq 3)) (Ev.cond (fun _ => Ev.cond (fun h' => absurd h' (by decide)) (fun _ => ?_)) (fun h' => absurd (by decide) h'))) (fun h' => absurd rfl h')
 have e : (((ofL r).size : Int) % 3 != 0) = false := by
  rw [ofL_size, hz]
  exact bne_eq_false_iff_eq.mpr (by omega)
 rw [e]
 apply Ev.succ
 simp only [impl_VoteBits.j0]
 refine Ev.cond (fun h' => absurd h' Bool.false_ne_true) (fun _ => ?_)
 have := vote3_l0 l r (⟨#[]⟩ : ByteArray) h (by show 0 + l.length ≤ 400; omega)
 rw [show (⟨#[]⟩ : ByteArray) ++ ofL l = ofL l from ByteArray.empty_append] at this
 exact this
theorem flipT_ofL (l : List UInt8) (m : Nat) (hm : m < l.length) : flipT (ofL l) m = ofL (l.set m (flipU l[m])) := by
 unfold flipT
 have e1 : (ofL l).extract 0 m = ofL (l.take m) := by rw [ofL_ext, List.drop_zero, Nat.sub_zero]
 have e2 : (ofL l).extract m (m + 1) = ofL [l[m]] := by
  rw [ofL_ext, List.drop_eq_getElem_cons hm, Nat.add_sub_cancel_left]; rfl
 have e3 : (ofL l).extract (m + 1) (ofL l).size = ofL (l.drop (m + 1)) := by
  rw [ofL_ext, ofL_size, List.take_of_length_le (by rw [List.length_drop]; omega)]
 have e4 : oppS (ofL [l[m]]) = ofL [flipU l[m]] := rfl
 rw [e1, e2, e3, e4, ofL_app, ofL_app, List.set_eq_take_append_cons_drop, if_pos hm, List.append_assoc]; rfl
theorem flip_bits (l : List UInt8) (m : Nat) (hm : m < l.length) (h : l.all isBitB = true) : (l.set m (flipU l[m])).all isBitB = true := by
 rw [List.all_eq_true] at h ⊢
 intro x hx
 rcases List.mem_or_eq_of_mem_set hx with hx | rfl
 ·exact h x hx
 ·unfold flipU
  split <;> rfl
theorem dgts_dataT (x : Nat) : ∀ w, (dgts x w).map (fun n => UInt8.ofNat n.toNat) = dgB x w := by
 intro w
 induction w with
 | zero => rfl
 | succ w ih =>
  simp only [dgts, dgB, List.map_cons, ih]
  congr 1
  have h : x / 2 ^ w % 2 = 0 ∨ x / 2 ^ w % 2 = 1 := by omega
  rcases h with h | h <;> rw [h] <;> decide
theorem chk_dataT (p : Nat) (s : ByteArray) : (chk p s).data.toList = dgB (iterT p (deg p) (remN p s.data.toList 0)) (deg p) := by
 unfold chk checkN
 rw [← dgts_dataT]
 simp [strOfNums]
theorem chk_sizeT (p : Nat) (s : ByteArray) : (chk p s).size = deg p := by rw [← size_data, chk_dataT, dgB_length]
theorem addT {p : Nat} (h1 : 2 ≤ p) (h2 : p ≤ 131071) (s : ByteArray) (hn : s.size ≤ 300) (hb : s.data.toList.all isBitB = true) : Ev (fun k => impl_AddCheck.f k (p : Int) s) (s ++ chk p s, true) := by
 have hd16 := deg16 h1 h2
 have hw : wrap64 ((s.size : Int) + (deg p : Int)) = (s.size : Int) + (deg p : Int) := w64 (by omega) (by omega)
 unfold impl_AddCheck.f
 refine Ev.bind (Ev.const (IsCheck_eq _)) ?_
 refine Ev.cond (fun _ => ?_) (fun h' => absurd (decide_eq_true ⟨by omega, by omega⟩) h')
 refine Ev.bind (Ev.const (IsBits_eq s (by omega))) ?_
 refine Ev.cond (fun _ => ?_) (fun h' => absurd (bitsB_allT hb (by omega)) h')
 refine Ev.bind (Ev.const (degree_eq h1 h2)) ?_
 rw [hw]
 refine Ev.cond (fun h' => absurd h' (by omega)) (fun _ => ?_)
 refine Ev.bind (chk_impl h1 h2 s (by omega) hb) ?_
 exact Ev.cond (fun _ => Ev.now _) (fun h' => absurd (show s.size + (chk p s).size ≤ 9223372036854775807 by rw [chk_sizeT]; omega) h')
theorem chk_bits (p : Nat) (s : ByteArray) (hb : s.data.toList.all isBitB = true) : (s ++ chk p s).data.toList.all isBitB = true := by
 rw [ByteArray.data_append, Array.toList_append, List.all_append, hb, chk_dataT, Bool.true_and, List.all_eq_true]
 intro c hc
 rcases dgB_bitU _ _ c hc with rfl | rfl <;> rfl
theorem hasT' {p : Nat} (h1 : 2 ≤ p) (h2 : p ≤ 131071) (s : ByteArray) (hn : s.size ≤ 300) (hb : s.data.toList.all isBitB = true) : Ev (fun k => impl_HasCheck.f k (p : Int) (s ++ chk p s)) true := by
 have hd16 := deg16 h1 h2
 have hb2 := chk_bits p s hb
 have hz : (s ++ chk p s).size ≤ 400 := by rw [ByteArray.size_append, chk_sizeT]; omega
 have hr := check_zero h1 (p_lt64 h2) s.data.toList
 have e : (s ++ chk p s).data.toList = s.data.toList ++ dgB (iterT p (deg p) (remN p s.data.toList 0)) (deg p) := by rw [ByteArray.data_append, Array.toList_append, chk_dataT]
 have c1 := remainder_impl h1 h2 (s ++ chk p s) (by omega) hb2
 rw [e, hr] at c1
 unfold impl_HasCheck.f
 refine Ev.bind (Ev.const (IsCheck_eq _)) ?_
 refine Ev.cond (fun _ => ?_) (fun h' => absurd (decide_eq_true ⟨by omega, by omega⟩) h')
 refine Ev.bind (Ev.const (IsBits_eq _ (by omega))) ?_
 refine Ev.cond (fun _ => ?_) (fun h' => absurd (bitsB_allT hb2 hz) h')
 exact Ev.bind c1 (Ev.now _)
def lineW (ws : List (List UInt8)) : ByteArray := ofL (Lib.join ws [32])
theorem line_split {w : List UInt8} {ws : List (List UInt8)} (h : ∀ x ∈ w :: ws, (32 : UInt8) ∉ x) : (splitL 32 (lineW (w :: ws)).data.toList).map ofL = ofL w :: ws.map ofL := by
 unfold lineW
 rw [ofL_data, splitL_join 32 (w :: ws) (by simp) h]; rfl
theorem cmd_line {ns ls : List ByteArray} {w : List UInt8} {ws : List (List UInt8)} {fo : ByteArray} {fr : ByteArray} {p : Int} {bi : ByteArray} {n li : List Int} {tx : ByteArray} {ns' ls' : List ByteArray} (h32 : ∀ x ∈ w :: ws, (32 : UInt8) ∉ x) (hz : (lineW (w :: ws)).size ≤ 1000000) (hk : kmGet kindsL (ofL w) = (fo, true)) (h0 : w.length ≤ 1000) (hl : ws.length = fo.size) (hl2 : ws.length ≤ 100) (hns : ns.length ≤ 1000) (hls : ls.length ≤ 1000)
 (hr : Ev (fun k => impl_Console_read.l0 k ns ls fo (ws.map ofL) ((0 : Nat) : Int) (⟨#[]⟩ : ByteArray) 0 (⟨#[]⟩ : ByteArray) [] []) (fr, p, bi, n, li, true)) (hc : Ev (fun k => impl_Console_carry.f k ns ls (ofL w) fr p bi n li) (tx, true, ns', ls')) : Ev (fun k => impl_command.f k ns ls (lineW (w :: ws))) (ns', ls', tx) :=
 cmd_ev ns ls (lineW (w :: ws)) (ofL w) (ws.map ofL) fo hz (line_split h32) hk (by rw [ofL_size]; exact h0) (by rw [List.length_map]; exact hl) (by rw [List.length_map]; exact hl2) hns hls hr hc
def okW : ByteArray := (⟨#[111, 107]⟩ : ByteArray)
section
variable {ns ls : List ByteArray} {w a c d e f : List UInt8} {tx : ByteArray} {ns' ls' : List ByteArray}
theorem form_A {j : Nat} (h32 : ∀ x ∈ [w, a], (32 : UInt8) ∉ x) (hz : (lineW [w, a]).size ≤ 1000000) (hk : kmGet kindsL (ofL w) = ((⟨#[65]⟩ : ByteArray), true)) (h0 : w.length ≤ 1000) (hns : ns.length ≤ 1000) (hls : ls.length ≤ 1000)
 (hj : Ev (fun k => slices_Index_string_string.f k ns (ofL a)) (j : Int)) (hjl : j < ls.length) (hc : Ev (fun k => impl_Console_carry.f k ns ls (ofL w) (⟨#[]⟩ : ByteArray) (j : Int) (sn ls j) [] []) (tx, true, ns', ls')) : Ev (fun k => impl_command.f k ns ls (lineW [w, a])) (ns', ls', tx) :=
 cmd_line h32 hz hk h0 rfl (show 1 ≤ 100 by decide) hns hls
  (rd_A 0 j (show 0 < 1 by decide) (by decide) (by decide) Qr0_ hj hjl (rd_end 1 (Nat.le_refl _))) hc
theorem form_AN {j : Nat} {v : Int} (h32 : ∀ x ∈ [w, a, c], (32 : UInt8) ∉ x) (hz : (lineW [w, a, c]).size ≤ 1000000) (hk : kmGet kindsL (ofL w) = ((⟨#[65, 78]⟩ : ByteArray), true)) (h0 : w.length ≤ 1000) (hns : ns.length ≤ 1000) (hls : ls.length ≤ 1000)
 (hj : Ev (fun k => slices_Index_string_string.f k ns (ofL a)) (j : Int)) (hjl : j < ls.length) (hc1 : c.length ≤ 1000) (hv : rdInt (ofL c) = (v, true)) (hc : Ev (fun k => impl_Console_carry.f k ns ls (ofL w) (⟨#[]⟩ : ByteArray) (j : Int) (sn ls j) [v] []) (tx, true, ns', ls')) : Ev (fun k => impl_command.f k ns ls (lineW [w, a, c])) (ns', ls', tx) :=
 cmd_line h32 hz hk h0 rfl (show 2 ≤ 100 by decide) hns hls
  (rd_A 0 j (show 0 < 2 by decide) (by decide) (by decide) Qr0_ hj hjl
   (rd_N 1 v (show 1 < 2 by decide) (by decide) (by decide) Qr0_ (by decide) (show (ofL c).size ≤ 1000000 from Qb1_) hv (rd_end 2 (Nat.le_refl _)))) hc
theorem form_ANNN {j : Nat} {v1 v2 v3 : Int} (h32 : ∀ x ∈ [w, a, c, d, e], (32 : UInt8) ∉ x) (hz : (lineW [w, a, c, d, e]).size ≤ 1000000) (hk : kmGet kindsL (ofL w) = ((⟨#[65, 78, 78, 78]⟩ : ByteArray), true)) (h0 : w.length ≤ 1000) (hns : ns.length ≤ 1000) (hls : ls.length ≤ 1000)
 (hj : Ev (fun k => slices_Index_string_string.f k ns (ofL a)) (j : Int)) (hjl : j < ls.length) (hl : c.length ≤ 1000 ∧ d.length ≤ 1000 ∧ e.length ≤ 1000) (hv : rdInt (ofL c) = (v1, true) ∧ rdInt (ofL d) = (v2, true) ∧ rdInt (ofL e) = (v3, true)) (hc : Ev (fun k => impl_Console_carry.f k ns ls (ofL w) (⟨#[]⟩ : ByteArray) (j : Int) (sn ls j) [v1, v2, v3] []) (tx, true, ns', ls')) : Ev (fun k => impl_command.f k ns ls (lineW [w, a, c, d, e])) (ns', ls', tx) :=
 cmd_line h32 hz hk h0 rfl (show 4 ≤ 100 by decide) hns hls
  (rd_A 0 j (show 0 < 4 by decide) (by decide) (by decide) Qr0_ hj hjl
   (rd_N 1 v1 (show 1 < 4 by decide) (by decide) (by decide) Qr0_ (show 0 < 1000 by decide) (show (ofL c).size ≤ 1000000 from Qb1_) hv.1
    (rd_N 2 v2 (show 2 < 4 by decide) (by decide) (by decide) Qr0_ (show 1 < 1000 by decide) (show (ofL d).size ≤ 1000000 from Qb1_) hv.2.1
     (rd_N 3 v3 (show 3 < 4 by decide) (by decide) (by decide) Qr0_ (show 2 < 1000 by decide) (show (ofL e).size ≤ 1000000 from Qb1_) hv.2.2 (rd_end 4 (Nat.le_refl _)))))) hc
theorem form_WAN {j : Nat} {v : Int} (h32 : ∀ x ∈ [w, a, c, d], (32 : UInt8) ∉ x) (hz : (lineW [w, a, c, d]).size ≤ 1000000) (hk : kmGet kindsL (ofL w) = ((⟨#[87, 65, 78]⟩ : ByteArray), true)) (h0 : w.length ≤ 1000) (hns : ns.length ≤ 1000) (hls : ls.length ≤ 1000)
 (hj : Ev (fun k => slices_Index_string_string.f k ns (ofL c)) (j : Int)) (hjl : j < ls.length) (hd : d.length ≤ 1000) (hv : rdInt (ofL d) = (v, true)) (hc : Ev (fun k => impl_Console_carry.f k ns ls (ofL w) (ofL a) (j : Int) (sn ls j) [v] []) (tx, true, ns', ls')) : Ev (fun k => impl_command.f k ns ls (lineW [w, a, c, d])) (ns', ls', tx) :=
 cmd_line h32 hz hk h0 rfl (show 3 ≤ 100 by decide) hns hls
  (rd_W 0 (show 0 < 3 by decide) (by decide) (by decide) Qr0_
   (rd_A 1 j (show 1 < 3 by decide) (by decide) (by decide) Qr0_ hj hjl
    (rd_N 2 v (show 2 < 3 by decide) (by decide) (by decide) Qr0_ (show 0 < 1000 by decide) (show (ofL d).size ≤ 1000000 from Qb1_) hv (rd_end 3 (Nat.le_refl _))))) hc
theorem form_WANN {j : Nat} {v1 v2 : Int} (h32 : ∀ x ∈ [w, a, c, d, e], (32 : UInt8) ∉ x) (hz : (lineW [w, a, c, d, e]).size ≤ 1000000) (hk : kmGet kindsL (ofL w) = ((⟨#[87, 65, 78, 78]⟩ : ByteArray), true)) (h0 : w.length ≤ 1000) (hns : ns.length ≤ 1000) (hls : ls.length ≤ 1000)
 (hj : Ev (fun k => slices_Index_string_string.f k ns (ofL c)) (j : Int)) (hjl : j < ls.length) (hl : d.length ≤ 1000 ∧ e.length ≤ 1000) (hv : rdInt (ofL d) = (v1, true) ∧ rdInt (ofL e) = (v2, true)) (hc : Ev (fun k => impl_Console_carry.f k ns ls (ofL w) (ofL a) (j : Int) (sn ls j) [v1, v2] []) (tx, true, ns', ls')) : Ev (fun k => impl_command.f k ns ls (lineW [w, a, c, d, e])) (ns', ls', tx) :=
 cmd_line h32 hz hk h0 rfl (show 4 ≤ 100 by decide) hns hls
  (rd_W 0 (show 0 < 4 by decide) (by decide) (by decide) Qr0_
   (rd_A 1 j (show 1 < 4 by decide) (by decide) (by decide) Qr0_ hj hjl
    (rd_N 2 v1 (show 2 < 4 by decide) (by decide) (by decide) Qr0_ (show 0 < 1000 by decide) (show (ofL d).size ≤ 1000000 from Qb1_) hv.1
     (rd_N 3 v2 (show 3 < 4 by decide) (by decide) (by decide) Qr0_ (show 1 < 1000 by decide) (show (ofL e).size ≤ 1000000 from Qb1_) hv.2 (rd_end 4 (Nat.le_refl _)))))) hc
theorem form_WNNNL {v1 v2 v3 : Int} {ds : List Int} (h32 : ∀ x ∈ [w, a, c, d, e, f], (32 : UInt8) ∉ x) (hz : (lineW [w, a, c, d, e, f]).size ≤ 1000000) (hk : kmGet kindsL (ofL w) = ((⟨#[87, 78, 78, 78, 76]⟩ : ByteArray), true)) (h0 : w.length ≤ 1000) (hns : ns.length ≤ 1000) (hls : ls.length ≤ 1000)
 (hl : c.length ≤ 1000 ∧ d.length ≤ 1000 ∧ e.length ≤ 1000) (hv : rdInt (ofL c) = (v1, true) ∧ rdInt (ofL d) = (v2, true) ∧ rdInt (ofL e) = (v3, true)) (hf : Ev (fun k => impl_ReadList.f k (ofL f)) (ds, true)) (hc : Ev (fun k => impl_Console_carry.f k ns ls (ofL w) (ofL a) 0 (⟨#[]⟩ : ByteArray) [v1, v2, v3] ds) (tx, true, ns', ls')) : Ev (fun k => impl_command.f k ns ls (lineW [w, a, c, d, e, f])) (ns', ls', tx) :=
 cmd_line h32 hz hk h0 rfl (show 5 ≤ 100 by decide) hns hls
  (rd_W 0 (show 0 < 5 by decide) (by decide) (by decide) Qr0_
   (rd_N 1 v1 (show 1 < 5 by decide) (by decide) (by decide) Qr0_ (show 0 < 1000 by decide) (show (ofL c).size ≤ 1000000 from Qb1_) hv.1
    (rd_N 2 v2 (show 2 < 5 by decide) (by decide) (by decide) Qr0_ (show 1 < 1000 by decide) (show (ofL d).size ≤ 1000000 from Qb1_) hv.2.1
     (rd_N 3 v3 (show 3 < 5 by decide) (by decide) (by decide) Qr0_ (show 2 < 1000 by decide) (show (ofL e).size ≤ 1000000 from Qb1_) hv.2.2
      (rd_L 4 ds (show 4 < 5 by decide) (by decide) (by decide) Qr0_ hf (rd_end 5 (Nat.le_refl _))))))) hc
end
theorem made_blocks {fr bi : ByteArray} {p : Int} {ds : List Int} (h : d4 ds) (hl : ds.length ≤ 100) : Ev (fun k => impl_made.f k (ofL [98, 108, 111, 99, 107, 115]) fr p bi [2, 4, -1] ds) (ofL (bL ds), decS (-1), true) := by
 unfold impl_made.f
 refine Ev.cond (fun _ => Ev.cond (fun _ => Ev.cond (fun _ => ?_) (fun h' => absurd (by decide) h')) (fun h' => absurd (by decide) h')) (fun h' => absurd (ofL_list _) h')
 refine Ev.bind mk24 (Ev.cond (fun _ => ?_) (fun h' => absurd (by decide) h'))
 refine Ev.bind (enc24 ds h hl) (Ev.cond (fun _ => Ev.bind (Ev.const (Decimal_eq (-1) (by decide) (by decide))) (Ev.now _)) (fun h' => absurd rfl h'))
theorem dec_data {fr bi : ByteArray} {p : Int} {li ds : List Int} (h : d4 ds) (hl : ds.length ≤ 64) (hb : bi = ofL (bL ds)) : Ev (fun k => impl_decoded.f k fr p bi [2, 4, -1] li) (ofL (listL ds ++ [32, 110, 111, 110, 101]), true) := by
 subst hb
 have hz := listL_len h
 have e : ((ofL (listL ds) ++ (⟨#[32]⟩ : ByteArray)) ++ ofL (listL [])) = ofL (listL ds ++ [32, 110, 111, 110, 101]) := by
  rw [show (⟨#[32]⟩ : ByteArray) = ofL [32] from rfl, ofL_app, ofL_app, List.append_assoc]; rfl
 unfold impl_decoded.f
 refine Ev.cond (fun _ => Ev.cond (fun _ => ?_) (fun h' => absurd (by decide) h')) (fun h' => absurd (by decide) h')
 refine Ev.bind mk24 (Ev.cond (fun _ => ?_) (fun h' => absurd (by decide) h'))
 refine Ev.bind (dec24 ds h (by omega)) (Ev.bind (lt24 ds h (by omega)) (Ev.bind (lt24 [] (fun x hx => absurd hx (by simp)) (by decide)) ?_))
 have h1 : (ofL (listL ds)).size + 1 ≤ 9223372036854775807 := by rw [ofL_size]; omega
 have h2 : (ofL (listL ds) ++ (⟨#[32]⟩ : ByteArray)).size + (ofL (listL [])).size ≤ 9223372036854775807 := by
  rw [ByteArray.size_append, ofL_size, ofL_size]
  show (listL ds).length + 1 + 4 ≤ _
  omega
 refine Ev.cond (fun _ => ?_) (fun h' => absurd h1 h')
 refine Ev.cond (fun _ => ?_) (fun h' => absurd h2 h')
 rw [e]
 exact Ev.cond (fun _ => Ev.cond (fun _ => Ev.cond (fun _ => Ev.now _) (fun h' => absurd rfl h')) (fun h' => absurd rfl h')) (fun h' => absurd rfl h')
section
variable {fr bi : ByteArray} {p : Int} {li : List Int} {b : ByteArray}
theorem made_lay {u v : Int} (h : Ev (fun k => impl_BlockInterleave.f k u v bi) (b, true)) : Ev (fun k => impl_made.f k (ofL [108, 97, 121]) fr p bi [u, v] li) (b, okW, true) := by
 unfold impl_made.f
 refine Ev.cond (fun h' => absurd h' (nT (by decide))) (fun _ => Ev.cond (fun _ => ?_) (fun h' => absurd (ofL_list _) h'))
 exact Ev.cond (fun _ => Ev.cond (fun _ => Ev.bind h (Ev.now _)) (fun h' => absurd (show (1 : Int) < 2 by decide) h')) (fun h' => absurd (show (0 : Int) < 2 by decide) h')
theorem made_unlay {u v : Int} (h : Ev (fun k => impl_BlockDeinterleave.f k u v bi) (b, true)) : Ev (fun k => impl_made.f k (ofL [117, 110, 108, 97, 121]) fr p bi [u, v] li) (b, okW, true) := by
 unfold impl_made.f
 refine Ev.cond (fun h' => absurd h' (nT (by decide))) (fun _ => Ev.cond (fun h' => absurd h' (nT (by decide))) (fun _ => Ev.cond (fun _ => ?_) (fun h' => absurd (ofL_list _) h')))
 exact Ev.cond (fun _ => Ev.cond (fun _ => Ev.bind h (Ev.now _)) (fun h' => absurd (show (1 : Int) < 2 by decide) h')) (fun h' => absurd (show (0 : Int) < 2 by decide) h')
theorem made_check {u : Int} (h : Ev (fun k => impl_AddCheck.f k u bi) (b, true)) : Ev (fun k => impl_made.f k (ofL [99, 104, 101, 99, 107]) fr p bi [u] li) (b, okW, true) := by
 unfold impl_made.f
 refine Ev.cond (fun h' => absurd h' (nT (by decide))) (fun _ => Ev.cond (fun h' => absurd h' (nT (by decide))) (fun _ => Ev.cond (fun h' => absurd h' (nT (by decide))) (fun _ => Ev.cond (fun _ => ?_) (fun h' => absurd (ofL_list _) h'))))
 exact Ev.cond (fun _ => Ev.bind h (Ev.now _)) (fun h' => absurd (show (0 : Int) < 1 by decide) h')
theorem made_repeat {u : Int} (h : Ev (fun k => impl_RepeatBits.f k bi u) (b, true)) : Ev (fun k => impl_made.f k (ofL [114, 101, 112, 101, 97, 116]) fr p bi [u] li) (b, okW, true) := by
 unfold impl_made.f
 refine Ev.cond (fun h' => absurd h' (nT (by decide))) (fun _ => Ev.cond (fun h' => absurd h' (nT (by decide))) (fun _ => Ev.cond (fun h' => absurd h' (nT (by decide))) (fun _ => Ev.cond (fun h' => absurd h' (nT (by decide))) (fun _ => Ev.cond (fun _ => ?_) (fun h' => absurd (ofL_list _) h')))))
 exact Ev.cond (fun _ => Ev.bind h (Ev.now _)) (fun h' => absurd (show (0 : Int) < 1 by decide) h')
theorem made_vote {u : Int} (h : Ev (fun k => impl_VoteBits.f k bi u) (b, true)) : Ev (fun k => impl_made.f k (ofL [118, 111, 116, 101]) fr p bi [u] li) (b, okW, true) := by
 unfold impl_made.f
 refine Ev.cond (fun h' => absurd h' (nT (by decide))) (fun _ => Ev.cond (fun h' => absurd h' (nT (by decide))) (fun _ => Ev.cond (fun h' => absurd h' (nT (by decide))) (fun _ => Ev.cond (fun h' => absurd h' (nT (by decide))) (fun _ => Ev.cond (fun h' => absurd h' (nT (by decide))) (fun _ => Ev.cond (fun _ => ?_) (fun h' => absurd (ofL_list _) h'))))))
 exact Ev.cond (fun _ => Ev.bind h (Ev.now _)) (fun h' => absurd (show (0 : Int) < 1 by decide) h')
end
theorem joinW_len : ∀ ws : List (List UInt8), (∀ x ∈ ws, x.length ≤ 400) → (Lib.join ws [32]).length ≤ 401 * ws.length
 | [], _ => Nat.zero_le _
 | [x], h => by rw [Lib.join_one]; have := h x List.mem_cons_self; show _ ≤ 401; omega
 | x :: y :: r, h => by
  have e : Lib.join (x :: y :: r) [32] = x ++ 32 :: Lib.join (y :: r) [32] := by simp [Lib.join, List.intercalate]
  have h1 := h x List.mem_cons_self
  have h2 := joinW_len (y :: r) (fun z hz => h z (List.mem_cons_of_mem _ hz))
  rw [e, List.length_append, List.length_cons, List.length_cons]
  omega
theorem lineW_size (ws : List (List UInt8)) (h : ∀ x ∈ ws, x.length ≤ 400) : (lineW ws).size ≤ 401 * ws.length := by
 unfold lineW
 rw [ofL_size]; exact joinW_len ws h
theorem joinW_nl (ws : List (List UInt8)) (h : ∀ x ∈ ws, (10 : UInt8) ∉ x) : (10 : UInt8) ∉ Lib.join ws [32] := fun hb => by
 rcases join_mem 32 10 ws hb with h1 | ⟨x, hx, h1⟩
 ·exact absurd h1 (by decide)
 ·exact h x hx h1
def scr : List (List UInt8) → List UInt8
 | [] => []
 | x :: r => x ++ 10 :: scr r
theorem scr_app : ∀ a b, scr (a ++ b) = scr a ++ scr b
 | [], _ => rfl
 | x :: a, b => by rw [List.cons_append, scr, scr, scr_app a b, List.append_assoc, List.cons_append]
theorem scr_split : ∀ ws : List (List UInt8), (∀ x ∈ ws, (10 : UInt8) ∉ x) → splitL 10 (scr ws) = ws ++ [[]]
 | [], _ => rfl
 | x :: r, h => by rw [scr, splitL_cut 10 x _ (h x List.mem_cons_self), scr_split r (fun y hy => h y (List.mem_cons_of_mem _ hy))]; rfl
def Runs : List (List UInt8) → List ByteArray → List ByteArray → List UInt8 → List ByteArray → List ByteArray → Prop
 | [], n0, n1, o, m0, m1 => o = [] ∧ m0 = n0 ∧ m1 = n1
 | l :: r, n0, n1, o, m0, m1 => ∃ (a0 a1 : List ByteArray) (tx o' : List UInt8), Ev (fun k => impl_command.f k n0 n1 (ofL l)) (a0, a1, ofL tx) ∧ tx.length ≤ 1000000 ∧ Runs r a0 a1 o' m0 m1 ∧ o = tx ++ 10 :: o'
theorem Runs.app : ∀ (l1 l2 : List (List UInt8)) (n0 n1 : List ByteArray) (o1 o2 : List UInt8) (m0 m1 p0 p1 : List ByteArray), Runs l1 n0 n1 o1 m0 m1 → Runs l2 m0 m1 o2 p0 p1 → Runs (l1 ++ l2) n0 n1 (o1 ++ o2) p0 p1
 | [], l2, n0, n1, o1, o2, m0, m1, p0, p1, ⟨h1, h2, h3⟩, h => by subst h1 h2 h3; exact h
 | l :: r, l2, n0, n1, o1, o2, m0, m1, p0, p1, ⟨a0, a1, tx, o', h1, h2, h3, h4⟩, h =>
  ⟨a0, a1, tx, o' ++ o2, h1, h2, Runs.app r l2 a0 a1 o' o2 m0 m1 p0 p1 h3 h, by rw [h4, List.append_assoc, List.cons_append]⟩
theorem Runs.one {l : List UInt8} {r : List (List UInt8)} {n0 n1 a0 a1 m0 m1 : List ByteArray} {tx o' : List UInt8} (h : Ev (fun k => impl_command.f k n0 n1 (ofL l)) (a0, a1, ofL tx)) (hz : tx.length ≤ 1000000) (hr : Runs r a0 a1 o' m0 m1) : Runs (l :: r) n0 n1 (tx ++ 10 :: o') m0 m1 := ⟨a0, a1, tx, o', h, hz, hr, rfl⟩
theorem copyT (ns ls : List ByteArray) (h1 : ns.length ≤ 1000) (h2 : ls.length ≤ 1000) : impl_copyConsole.f ns ls = some (ns, ls) := by
 unfold impl_copyConsole.f
 rw [clone_eq ns (by omega), Option.bind_some, clone_eq ls (by omega)]; rfl
theorem runs_l0 (ws : List (List UInt8)) (hw : ws.length ≤ 100) (m0 m1 : List ByteArray) (hm0 : m0.length ≤ 1000) (hm1 : m1.length ≤ 1000) : ∀ (d n : Nat) (n0 n1 : List ByteArray) (o : List UInt8) (out : ByteArray), n + d = ws.length → Runs (ws.drop n) n0 n1 o m0 m1 → out.size ≤ 1000001 * n →
 Ev (fun k => impl_RunConsole.l0 k (ws.map ofL ++ [ofL []]) (ws.length : Int) (n : Int) n0 n1 out) (m0, m1, out ++ ofL o, true) := by
 intro d
 induction d with
 | zero =>
  intro n n0 n1 o out h hr ho
  rw [List.drop_eq_nil_of_le (by omega)] at hr
  obtain ⟨rfl, rfl, rfl⟩ := hr
  rw [show out ++ ofL [] = out from ByteArray.append_empty]
  apply Ev.succ
  simp only [impl_RunConsole.l0]
  exact Ev.cond (fun h' => absurd h' (by omega)) (fun _ => Ev.bind (Ev.const (copyT m0 m1 hm0 hm1)) (Ev.now _))
 | succ d ih =>
  intro n n0 n1 o out h hr ho
  have hn : n < ws.length := by omega
  rw [List.drop_eq_getElem_cons hn] at hr
  obtain ⟨a0, a1, tx, o', h1, h2, h3, rfl⟩ := hr
  have e : rdOf ByteArray.empty (ws.map ofL ++ [ofL []]) (n : Int) = ofL ws[n] := by
   rw [sr_nat]
   unfold sn
   rw [List.getD_eq_getElem?_getD, List.getElem?_append_left (by rw [List.length_map]; exact hn), List.getElem?_map, List.getElem?_eq_getElem hn]; rfl
  have hs : (ofL tx).size = tx.length := ofL_size tx
  have hnl : (⟨#[10]⟩ : ByteArray) = ofL [10] := rfl
  have h4 := ih (n + 1) a0 a1 o' (out ++ (ofL tx ++ (⟨#[10]⟩ : ByteArray))) (by omega) h3 (by rw [ByteArray.size_append, ByteArray.size_append, hs]; show out.size + (tx.length + 1) ≤ _; omega)
  apply Ev.succ
  simp only [impl_RunConsole.l0, e, w64_succ (show n < 9223372036854775807 by omega)]
  refine Ev.cond (fun _ => ?_) (fun h' => absurd (by omega) h')
  refine Ev.cond (fun _ => ?_) (fun h' => absurd (by omega) h')
  refine Ev.bind h1 (Ev.cond (fun _ => ?_) (fun h' => absurd (by show out.size + (ofL tx).size + 1 ≤ _; rw [hs]; omega) h'))
  rw [hnl, ofL_app, ByteArray.append_assoc, ofL_app, List.append_assoc] at h4
  rw [hnl, ofL_app]
  exact h4
theorem runs_f (ws : List (List UInt8)) (hw : ws.length ≤ 100) (hnl : ∀ x ∈ ws, (10 : UInt8) ∉ x) (hz : (scr ws).length ≤ 4000) {m0 m1 : List ByteArray} {o : List UInt8} (hm0 : m0.length ≤ 1000) (hm1 : m1.length ≤ 1000) (h : Runs ws [] [] o m0 m1) : Ev (fun k => impl_RunConsole.f k [] [] (ofL (scr ws))) (m0, m1, ofL o, true) := by
 have hz2 : (ofL (scr ws)).size ≤ 4000 := by rw [ofL_size]; exact hz
 have hsp := split_eq (ofL (scr ws)) 10 (by omega)
 rw [ofL_data, scr_split ws hnl, List.map_append] at hsp
 have hlen : (ws.map ofL ++ [ofL []]).length = ws.length + 1 := by rw [List.length_append, List.length_map]; rfl
 obtain ⟨v1, ev1, hv1⟩ := valid_TP [] [] (Nat.zero_le _) (Nat.zero_le _) (fun x hx => absurd hx (by simp)) (fun x hx => absurd hx (by simp))
 rw [hv1.trans (show conB [] [] = true by decide)] at ev1
 unfold impl_RunConsole.f
 refine Ev.bind (Ev.const hsp) ?_
 have hi : (((ws.map ofL ++ [ofL []]).length : Nat) : Int) - 1 = (ws.length : Int) := by omega
 have hlast : rdOf ByteArray.empty (ws.map ofL ++ [ofL []]) (ws.length : Int) = ofL [] := by
  rw [sr_nat]
  unfold sn
  rw [List.getD_eq_getElem?_getD, List.getElem?_append_right (by rw [List.length_map]; exact Nat.le_refl _), List.length_map, Nat.sub_self]; rfl
 show Ev (fun k => if 0 < (ws.map ofL ++ [ofL []]).length ∧ (ws.map ofL ++ [ofL []]).length ≤ 4294967296 then (if ((ofL (scr ws)).size : Int) > 4000 then (some (([] : List ByteArray), ([] : List ByteArray), (⟨#[]⟩ : ByteArray), false)) else (if (rdOf ByteArray.empty (ws.map ofL ++ [ofL []]) (((ws.map ofL ++ [ofL []]).length : Int) - 1)).toList = ([] : List UInt8) then ((impl_ValidConsole.f k [] []).bind fun t => (if t = true then (impl_RunConsole.l0 k (ws.map ofL ++ [ofL []]) (((ws.map ofL ++ [ofL []]).length : Int) - 1) 0 [] [] (⟨#[]⟩ : ByteArray)) else (some (([] : List ByteArray), ([] : List ByteArray), (⟨#[]⟩ : ByteArray), false)))) else (some (([] : List ByteArray), ([] : List ByteArray), (⟨#[]⟩ : ByteArray), false)))) else none) _
 rw [hi, hlast]
 refine Ev.cond (fun _ => ?_) (fun h' => absurd ⟨by omega, by omega⟩ h')
 refine Ev.cond (fun h' => absurd h' (by omega)) (fun _ => ?_)
 refine Ev.cond (fun _ => ?_) (fun h' => absurd (by rw [ofL_list]) h')
 have h5 := runs_l0 ws hw m0 m1 hm0 hm1 ws.length 0 [] [] o (⟨#[]⟩ : ByteArray) (by omega) h (Nat.zero_le _)
 rw [show (⟨#[]⟩ : ByteArray) ++ ofL o = ofL o from ByteArray.empty_append] at h5
 exact Ev.bind ev1 (Ev.cond (fun _ => h5) (fun h' => absurd rfl h'))
def nX : ByteArray := ofL [120]
def nY : ByteArray := ofL [121]
def nZ : ByteArray := ofL [122]
def nW : ByteArray := ofL [119]
theorem names4 : nameB nW = true ∧ nameB nX = true ∧ nameB nY = true ∧ nameB nZ = true ∧ Op.bytesLess nW.toList nX.toList = true ∧ Op.bytesLess nX.toList nY.toList = true ∧ Op.bytesLess nY.toList nZ.toList = true := by decide +kernel
theorem con1 {a : ByteArray} (ha : bitsB a = true) : conB [nX] [a] = true := by
 refine (conB_iff _ _).2 ⟨(show 1 ≤ 6 by decide), rfl, fun n hn => (conI_iff _ _ _).2 ?_⟩
 match n, hn with
 | 0, _ => exact ⟨names4.2.1, .inl rfl, ha⟩
theorem con2 {a b : ByteArray} (ha : bitsB a = true) (hb : bitsB b = true) : conB [nX, nY] [a, b] = true := by
 refine (conB_iff _ _).2 ⟨(show 2 ≤ 6 by decide), rfl, fun n hn => (conI_iff _ _ _).2 ?_⟩
 match n, hn with
 | 0, _ => exact ⟨names4.2.1, .inl rfl, ha⟩
 | 1, _ => exact ⟨names4.2.2.1, .inr names4.2.2.2.2.2.1, hb⟩
theorem con3 {a b c : ByteArray} (ha : bitsB a = true) (hb : bitsB b = true) (hc : bitsB c = true) : conB [nX, nY, nZ] [a, b, c] = true := by
 refine (conB_iff _ _).2 ⟨(show 3 ≤ 6 by decide), rfl, fun n hn => (conI_iff _ _ _).2 ?_⟩
 match n, hn with
 | 0, _ => exact ⟨names4.2.1, .inl rfl, ha⟩
 | 1, _ => exact ⟨names4.2.2.1, .inr names4.2.2.2.2.2.1, hb⟩
 | 2, _ => exact ⟨names4.2.2.2.1, .inr names4.2.2.2.2.2.2, hc⟩
theorem conW1 {d a : ByteArray} (hd : bitsB d = true) (ha : bitsB a = true) : conB [nW, nX] [d, a] = true := by
 refine (conB_iff _ _).2 ⟨(show 2 ≤ 6 by decide), rfl, fun n hn => (conI_iff _ _ _).2 ?_⟩
 match n, hn with
 | 0, _ => exact ⟨names4.1, .inl rfl, hd⟩
 | 1, _ => exact ⟨names4.2.1, .inr names4.2.2.2.2.1, ha⟩
theorem conW3 {d a b c : ByteArray} (hd : bitsB d = true) (ha : bitsB a = true) (hb : bitsB b = true) (hc : bitsB c = true) : conB [nW, nX, nY, nZ] [d, a, b, c] = true := by
 refine (conB_iff _ _).2 ⟨(show 4 ≤ 6 by decide), rfl, fun n hn => (conI_iff _ _ _).2 ?_⟩
 match n, hn with
 | 0, _ => exact ⟨names4.1, .inl rfl, hd⟩
 | 1, _ => exact ⟨names4.2.1, .inr names4.2.2.2.2.1, ha⟩
 | 2, _ => exact ⟨names4.2.2.1, .inr names4.2.2.2.2.2.1, hb⟩
 | 3, _ => exact ⟨names4.2.2.2.1, .inr names4.2.2.2.2.2.2, hc⟩
theorem ixE {xs : List ByteArray} {x : ByteArray} {j : Int} (h : slices_Index_string_string.f 20 xs x = some j) : Ev (fun k => slices_Index_string_string.f k xs x) j := Ev.of_mono (fun k => slices_Index_string_string.mono _ _ k) 20 h
theorem bsE {xs : List ByteArray} {x : ByteArray} {j : Int × Bool} (h : slices_BinarySearch_string_string.f 20 xs x = some j) : Ev (fun k => slices_BinarySearch_string_string.f k xs x) j := Ev.of_mono (fun k => slices_BinarySearch_string_string.mono _ _ k) 20 h
theorem num100 : ∀ m : Nat, m < 100 → rdInt (decS (m : Int)) = ((m : Int), true) ∧ (32 : UInt8) ∉ Lib.itoa (m : Int) ∧ (10 : UInt8) ∉ Lib.itoa (m : Int) ∧ (Lib.itoa (m : Int)).length ≤ 2 := by decide +kernel
theorem rd2 : rdInt (ofL [50]) = (2, true) ∧ rdInt (ofL [52]) = (4, true) ∧ rdInt (ofL [45, 49]) = (-1, true) ∧ rdInt (ofL [51]) = (3, true) ∧ rdInt (ofL [49, 49]) = (11, true) := by decide +kernel
def showL (x : List UInt8) : List UInt8 := Lib.join [[115, 104, 111, 119], x] [32]
def noneL (l : List UInt8) : List UInt8 := if l = [] then [110, 111, 110, 101] else l
theorem noneB_ofL (l : List UInt8) : noneB (ofL l) = ofL (noneL l) := by
 unfold noneB noneL
 rw [ofL_list]
 split <;> rfl
theorem noneL_len (l : List UInt8) : (noneL l).length ≤ l.length + 4 := by
 unfold noneL
 split
 ·show 4 ≤ _; omega
 ·omega
theorem bnd {ws : List (List UInt8)} (h : ∀ x ∈ ws, x.length ≤ 400) (h2 : ws.length ≤ 10) : (lineW ws).size ≤ 1000000 := by
 have := lineW_size ws h
 omega
theorem run_show {ns ls : List ByteArray} {x l : List UInt8} {j : Nat} (hx : (32 : UInt8) ∉ x) (hx2 : x.length ≤ 400) (hns : ns.length ≤ 1000) (hls : ls.length ≤ 1000) (hj : Ev (fun k => slices_Index_string_string.f k ns (ofL x)) (j : Int)) (hjl : j < ls.length) (e : sn ls j = ofL l) : Ev (fun k => impl_command.f k ns ls (ofL (showL x))) (ns, ls, ofL (noneL l)) := by
 have h := form_A (w := [115, 104, 111, 119]) (a := x) (tx := ofL (noneL l)) (ns' := ns) (ls' := ls) (by simp only [List.forall_mem_cons]; exact ⟨by decide, hx, fun _ h => absurd h (by simp)⟩) (bnd (by simp only [List.forall_mem_cons]; exact ⟨by decide, hx2, fun _ h => absurd h (by simp)⟩) (show 2 ≤ 10 by decide)) Qr0_ (by decide) hns hls hj hjl (by rw [e, ← noneB_ofL]; exact ca_show)
 exact h
def blocksL (ds : List Int) : List UInt8 := Lib.join [[98, 108, 111, 99, 107, 115], [120], [50], [52], [45, 49], listL ds] [32]
def dataL : List UInt8 := Lib.join [[100, 97, 116, 97], [120], [50], [52], [45, 49]] [32]
theorem runs_A (ds : List Int) (h : d4 ds) (hl : ds.length ≤ 64) : Runs [blocksL ds, showL [120], dataL] [] [] ([45, 49] ++ 10 :: (noneL (bL ds) ++ 10 :: ((listL ds ++ [32, 110, 111, 110, 101]) ++ [10]))) [nX] [ofL (bL ds)] := by
 have hz := listL_len h
 have hbl := bL_len h
 have hbb : bitsB (ofL (bL ds)) = true := bitsB_allT (by rw [ofL_data]; exact bL_bits h) Qb1_
 have e1 : decS (-1) = ofL [45, 49] := by decide +kernel
 refine Runs.one (a0 := [nX]) (a1 := [ofL (bL ds)]) ?_ (by decide) (Runs.one (a0 := [nX]) (a1 := [ofL (bL ds)]) ?_ (by have := noneL_len (bL ds); omega) (Runs.one (a0 := [nX]) (a1 := [ofL (bL ds)]) (o' := []) ?_ (by rw [List.length_append]; show (listL ds).length + 5 ≤ _; omega) ⟨rfl, rfl, rfl⟩))
 ·rw [← e1]
  exact form_WNNNL (w := [98, 108, 111, 99, 107, 115]) (a := [120]) (c := [50]) (d := [52]) (e := [45, 49]) (f := listL ds) (ds := ds) (by simp only [List.forall_mem_cons]; exact ⟨by decide, by decide, by decide, by decide, by decide, (listL_no h).1, fun _ h => absurd h (by simp)⟩) (bnd (by simp only [List.forall_mem_cons]; exact ⟨by decide, by decide, by decide, by decide, by decide, by omega, fun _ h => absurd h (by simp)⟩) (show 6 ≤ 10 by decide)) Qr0_ (by decide) (by decide) (by decide) ⟨by decide, by decide, by decide⟩ ⟨rd2.1, rd2.2.1, rd2.2.2.1⟩ (rl24 ds h (by omega))
   (ca_made ⟨nT (by decide), nT (by decide), nT (by decide), nT (by decide), nT (by decide)⟩ (made_blocks h (by omega)) (put_ev (j := 0) (f := false) (bsE Qr0_) rfl (by decide) (fun h => by cases h) (fun _ => ⟨Nat.le_refl _, rfl, rfl⟩) (con1 hbb)))
 ·exact run_show (j := 0) (by decide) (by decide) (show 1 ≤ 1000 by decide) (show 1 ≤ 1000 by decide) (ixE Qr0_) (show 0 < 1 by decide) rfl
 ·exact form_ANNN (w := [100, 97, 116, 97]) (a := [120]) (c := [50]) (d := [52]) (e := [45, 49]) (j := 0) (by simp only [List.forall_mem_cons]; exact ⟨by decide, by decide, by decide, by decide, by decide, fun _ h => absurd h (by simp)⟩) (bnd (by simp only [List.forall_mem_cons]; exact ⟨by decide, by decide, by decide, by decide, by decide, fun _ h => absurd h (by simp)⟩) (show 5 ≤ 10 by decide)) Qr0_ (by decide) (show 1 ≤ 1000 by decide) (show 1 ≤ 1000 by decide) (ixE Qr0_) (show 0 < 1 by decide) ⟨by decide, by decide, by decide⟩ ⟨rd2.1, rd2.2.1, rd2.2.2.1⟩ (ca_data (dec_data h (by omega) rfl))
def layL (n : Nat) : List UInt8 := Lib.join [[108, 97, 121], [121], [120], Lib.itoa (n : Int), [52]] [32]
def unlayL (n : Nat) : List UInt8 := Lib.join [[117, 110, 108, 97, 121], [121], [121], Lib.itoa (n : Int), [52]] [32]
theorem runs_B (n : Nat) (hn : n < 100) (b o : List UInt8) (hb : b.all isBitB = true) (ho : o.all isBitB = true) (hbl : b.length ≤ 400) (hol : o.length ≤ 400) (hb0 : b ≠ []) (ho0 : o ≠ []) (h1 : Ev (fun k => impl_BlockInterleave.f k (n : Int) 4 (ofL b)) (ofL o, true)) (h2 : Ev (fun k => impl_BlockDeinterleave.f k (n : Int) 4 (ofL o)) (ofL b, true)) :
 Runs [layL n, showL [121], unlayL n, showL [121]] [nX] [ofL b] ([111, 107] ++ 10 :: (o ++ 10 :: ([111, 107] ++ 10 :: (b ++ [10])))) [nX, nY] [ofL b, ofL b] := by
 obtain ⟨m1, m2, m3, m4⟩ := num100 n hn
 have hbb : bitsB (ofL b) = true := bitsB_allT (by rw [ofL_data]; exact hb) Qb1_
 have hob : bitsB (ofL o) = true := bitsB_allT (by rw [ofL_data]; exact ho) Qb1_
 have s1 : Ev (fun k => impl_command.f k [nX, nY] [ofL b, ofL o] (ofL (showL [121]))) ([nX, nY], [ofL b, ofL o], ofL o) := by
  have := run_show (ns := [nX, nY]) (ls := [ofL b, ofL o]) (x := [121]) (l := o) (j := 1) (by decide) (by decide) (show 2 ≤ 1000 by decide) (show 2 ≤ 1000 by decide) (ixE Qr0_) (show 1 < 2 by decide) rfl
  unfold noneL at this
  rwa [if_neg ho0] at this
 have s2 : Ev (fun k => impl_command.f k [nX, nY] [ofL b, ofL b] (ofL (showL [121]))) ([nX, nY], [ofL b, ofL b], ofL b) := by
  have := run_show (ns := [nX, nY]) (ls := [ofL b, ofL b]) (x := [121]) (l := b) (j := 1) (by decide) (by decide) (show 2 ≤ 1000 by decide) (show 2 ≤ 1000 by decide) (ixE Qr0_) (show 1 < 2 by decide) rfl
  unfold noneL at this
  rwa [if_neg hb0] at this
 refine Runs.one (a0 := [nX, nY]) (a1 := [ofL b, ofL o]) ?_ (by decide) (Runs.one (a0 := [nX, nY]) (a1 := [ofL b, ofL o]) s1 (by omega) (Runs.one (a0 := [nX, nY]) (a1 := [ofL b, ofL b]) ?_ (by decide) (Runs.one (a0 := [nX, nY]) (a1 := [ofL b, ofL b]) (o' := []) s2 (by omega) ⟨rfl, rfl, rfl⟩)))
 ·exact form_WANN (w := [108, 97, 121]) (a := [121]) (c := [120]) (d := Lib.itoa (n : Int)) (e := [52]) (j := 0) (by simp only [List.forall_mem_cons]; exact ⟨by decide, by decide, by decide, m2, by decide, fun _ h => absurd h (by simp)⟩) (bnd (by simp only [List.forall_mem_cons]; exact ⟨by decide, by decide, by decide, by omega, by decide, fun _ h => absurd h (by simp)⟩) (show 5 ≤ 10 by decide)) Qr0_ (by decide) (show 1 ≤ 1000 by decide) (show 1 ≤ 1000 by decide) (ixE Qr0_) (show 0 < 1 by decide) ⟨by omega, by decide⟩ ⟨m1, rd2.2.1⟩
   (ca_made ⟨nT (by decide), nT (by decide), nT (by decide), nT (by decide), nT (by decide)⟩ (made_lay (bi := ofL b) h1) (put_ev (j := 1) (f := false) (bsE Qr0_) rfl (show 1 ≤ 100 by decide) (fun h => by cases h) (fun _ => ⟨Nat.le_refl _, rfl, rfl⟩) (con2 hbb hob)))
 ·exact form_WANN (w := [117, 110, 108, 97, 121]) (a := [121]) (c := [121]) (d := Lib.itoa (n : Int)) (e := [52]) (j := 1) (by simp only [List.forall_mem_cons]; exact ⟨by decide, by decide, by decide, m2, by decide, fun _ h => absurd h (by simp)⟩) (bnd (by simp only [List.forall_mem_cons]; exact ⟨by decide, by decide, by decide, by omega, by decide, fun _ h => absurd h (by simp)⟩) (show 5 ≤ 10 by decide)) Qr0_ (by decide) (show 2 ≤ 1000 by decide) (show 2 ≤ 1000 by decide) (ixE Qr0_) (show 1 < 2 by decide) ⟨by omega, by decide⟩ ⟨m1, rd2.2.1⟩
   (ca_made ⟨nT (by decide), nT (by decide), nT (by decide), nT (by decide), nT (by decide)⟩ (made_unlay (bi := ofL o) h2) (put_ev (j := 1) (f := true) (bsE Qr0_) rfl (show 2 ≤ 100 by decide) (fun _ => ⟨show 1 < 2 by decide, rfl, rfl⟩) (fun h => by cases h) (con2 hbb hbb)))
def repeatL' : List UInt8 := Lib.join [[114, 101, 112, 101, 97, 116], [122], [120], [51]] [32]
def flipL (m : Nat) : List UInt8 := Lib.join [[102, 108, 105, 112], [122], Lib.itoa (m : Int)] [32]
def voteL : List UInt8 := Lib.join [[118, 111, 116, 101], [122], [122], [51]] [32]
theorem itoa_short (n : Nat) (h : n ≤ 1000000) : (Lib.itoa (n : Int)).length ≤ 21 := itoa_len n (by omega) (by omega)
theorem set_end {α : Type} (l : List α) (x y : α) : (l ++ [x]).set l.length y = l ++ [y] := by
 rw [List.set_append_right _ _ (Nat.le_refl _), Nat.sub_self]; rfl
theorem run_show0 {ns ls : List ByteArray} {x l : List UInt8} {j : Nat} (hx : (32 : UInt8) ∉ x) (hx2 : x.length ≤ 400) (hns : ns.length ≤ 1000) (hls : ls.length ≤ 1000) (hj : Ev (fun k => slices_Index_string_string.f k ns (ofL x)) (j : Int)) (hjl : j < ls.length) (e : sn ls j = ofL l) (h0 : l ≠ []) : Ev (fun k => impl_command.f k ns ls (ofL (showL x))) (ns, ls, ofL l) := by
 have := run_show hx hx2 hns hls hj hjl e
 unfold noneL at this
 rwa [if_neg h0] at this
theorem runs_Cg (ns ls : List ByteArray) (z : Nat) (hn : ns.length = z) (hl : ls.length = z) (hz1 : 1 ≤ z) (hz3 : z ≤ 3) (b : List UInt8) (hx : sn ls 0 = ofL b)
 (hix : slices_Index_string_string.f 20 ns nX = some 0) (hbs : slices_BinarySearch_string_string.f 20 ns nZ = some ((z : Int), false)) (hjx : slices_Index_string_string.f 20 (ns ++ [nZ]) nZ = some (z : Int)) (hbz : slices_BinarySearch_string_string.f 20 (ns ++ [nZ]) nZ = some ((z : Int), true))
 (hcon : ∀ d, bitsB d = true → conB (ns ++ [nZ]) (ls ++ [d]) = true) (m : Nat) (hm : m ≤ 1000000) (hb : b.all isBitB = true) (hbl : b.length ≤ 133) (hb0 : b ≠ []) (hmb : m < (r3 b).length) :
 Runs [repeatL', flipL m, voteL, showL [122]] ns ls ([111, 107] ++ 10 :: ([111, 107] ++ 10 :: ([111, 107] ++ 10 :: (b ++ [10])))) (ns ++ [nZ]) (ls ++ [ofL b]) := by
 obtain ⟨m2, m3⟩ := dec_no m
 have m1 : rdInt (ofL (Lib.itoa (m : Int))) = ((m : Int), true) := rdInt_dec m (by omega)
 have m4 := itoa_short m hm
 have h3l := r3_len b
 have h3b := r3_bits b hb
 have hfl : ((r3 b).set m (flipU (r3 b)[m])).length = 3 * b.length := by rw [List.length_set, h3l]
 have hfb := flip_bits (r3 b) m hmb h3b
 have hbb : bitsB (ofL b) = true := bitsB_allT (by rw [ofL_data]; exact hb) Qb1_
 have hrb : bitsB (ofL (r3 b)) = true := bitsB_allT (by rw [ofL_data]; exact h3b) Qb1_
 have h1 : Ev (fun k => impl_RepeatBits.f k (ofL b) 3) (ofL (r3 b), true) := rep3 (ofL b) Qb1_ (by rw [ofL_data]; exact hb)
 have h2 : Ev (fun k => impl_VoteBits.f k (flipT (ofL (r3 b)) m) 3) (ofL b, true) := by
  rw [flipT_ofL (r3 b) m hmb]
  exact vote3 b _ (maj_flip b m hmb hb) (by omega) hfb
 have an : ∀ d : ByteArray, (ns ++ [d]).length = z + 1 := fun d => by rw [List.length_append, hn]; rfl
 have al : ∀ d : ByteArray, (ls ++ [d]).length = z + 1 := fun d => by rw [List.length_append, hl]; rfl
 have sz : ∀ d : ByteArray, sn (ls ++ [d]) z = d := fun d => by
  unfold sn
  rw [List.getD_eq_getElem?_getD, List.getElem?_append_right (by omega), hl, Nat.sub_self]; rfl
 have st : ∀ d e : ByteArray, (ls ++ [d]).set z e = ls ++ [e] := fun d e => by rw [← hl]; exact set_end ls d e
 have s2 : Ev (fun k => impl_command.f k (ns ++ [nZ]) (ls ++ [ofL b]) (ofL (showL [122]))) (ns ++ [nZ], ls ++ [ofL b], ofL b) :=
  run_show0 (x := [122]) (l := b) (j := z) (by decide) (by decide) (by rw [an]; omega) (by rw [al]; omega) (ixE hjx) (by rw [al]; omega) (sz _) hb0
 refine Runs.one (a0 := ns ++ [nZ]) (a1 := ls ++ [ofL (r3 b)]) ?_ (by decide) (Runs.one (a0 := ns ++ [nZ]) (a1 := ls ++ [flipT (ofL (r3 b)) m]) ?_ (by decide) (Runs.one (a0 := ns ++ [nZ]) (a1 := ls ++ [ofL b]) ?_ (by decide) (Runs.one (a0 := ns ++ [nZ]) (a1 := ls ++ [ofL b]) (o' := []) s2 (by omega) ⟨rfl, rfl, rfl⟩)))
 ·exact form_WAN (w := [114, 101, 112, 101, 97, 116]) (a := [122]) (c := [120]) (d := [51]) (j := 0) (by decide) (bnd (by decide) (by decide)) Qr0_ (by decide) (by omega) (by omega) (ixE hix) (by omega) (by decide) rd2.2.2.2.1
   (ca_made ⟨nT (by decide), nT (by decide), nT (by decide), nT (by decide), nT (by decide)⟩ (made_repeat (bi := sn ls 0) (by rw [hx]; exact h1)) (put_ev (j := z) (f := false) (bsE hbs) (by omega) (by omega) (fun h => by cases h) (fun _ => ⟨by omega, by rw [← hn, List.take_length, List.drop_length]; rfl, by rw [← hl, List.take_length, List.drop_length]⟩) (hcon _ hrb)))
 ·have hf := form_AN (ns := ns ++ [nZ]) (ls := ls ++ [ofL (r3 b)]) (ns' := ns ++ [nZ]) (ls' := ls ++ [flipT (ofL (r3 b)) m]) (tx := (⟨#[111, 107]⟩ : ByteArray)) (w := [102, 108, 105, 112]) (a := [122]) (c := Lib.itoa (m : Int)) (v := (m : Int)) (j := z) (by simp only [List.forall_mem_cons]; exact ⟨by decide, by decide, m2, fun _ h => absurd h (by simp)⟩) (bnd (by simp only [List.forall_mem_cons]; exact ⟨by decide, by decide, by omega, fun _ h => absurd h (by simp)⟩) (show 3 ≤ 10 by decide)) Qr0_ (by decide) (by rw [an]; omega) (by rw [al]; omega) (ixE hjx) (by rw [al]; omega) (by omega) m1
   (by
    rw [sz, ← st (ofL (r3 b)) (flipT (ofL (r3 b)) m)]
    exact ca_flip (bi := ofL (r3 b)) (show 0 < 1 by decide) rfl (by rw [ofL_size]; exact hmb) Qb1_ (by rw [al]; omega))
  exact hf
 ·exact form_WAN (w := [118, 111, 116, 101]) (a := [122]) (c := [122]) (d := [51]) (j := z) (by decide) (bnd (by decide) (by decide)) Qr0_ (by decide) (by rw [an]; omega) (by rw [al]; omega) (ixE hjx) (by rw [al]; omega) (by decide) rd2.2.2.2.1
   (ca_made ⟨nT (by decide), nT (by decide), nT (by decide), nT (by decide), nT (by decide)⟩ (made_vote (bi := sn (ls ++ [flipT (ofL (r3 b)) m]) z) (by rw [sz]; exact h2)) (put_ev (j := z) (f := true) (bsE hbz) (by rw [an, al]) (by rw [an]; omega) (fun _ => ⟨by rw [al]; omega, rfl, (st _ _).symm⟩) (fun h => by cases h) (hcon _ hbb)))
def checkC (n : Nat) : List UInt8 := Lib.join [[99, 104, 101, 99, 107], [119], [120], Lib.itoa (n : Int)] [32]
def verifyC (n : Nat) : List UInt8 := Lib.join [[118, 101, 114, 105, 102, 121], [119], Lib.itoa (n : Int)] [32]
theorem runs_Dg (m : Nat) (hm : m ≤ 1000000) (ns' : List ByteArray) (ls' : List ByteArray) (b c : List UInt8) (hl : ls'.length = ns'.length) (hn : ns'.length ≤ 3) (hix : slices_Index_string_string.f 20 (nX :: ns') nX = some 0) (hiw : slices_Index_string_string.f 20 (nW :: nX :: ns') nW = some 0) (hbs : slices_BinarySearch_string_string.f 20 (nX :: ns') nW = some (0, false)) (hcon : conB (nW :: nX :: ns') (ofL c :: ofL b :: ls') = true) (hc0 : c ≠ []) (hcl : c.length ≤ 400) (h1 : Ev (fun k => impl_AddCheck.f k (m : Int) (ofL b)) (ofL c, true)) (h2 : Ev (fun k => impl_HasCheck.f k (m : Int) (ofL c)) true) :
 Runs [checkC m, verifyC m, showL [119]] (nX :: ns') (ofL b :: ls') ([111, 107] ++ 10 :: ([121, 101, 115] ++ 10 :: (c ++ [10]))) (nW :: nX :: ns') (ofL c :: ofL b :: ls') := by
 obtain ⟨m2, m3⟩ := dec_no m
 have m1 : rdInt (ofL (Lib.itoa (m : Int))) = ((m : Int), true) := rdInt_dec m (by omega)
 have m4 := itoa_short m hm
 have n1 : (nX :: ns').length ≤ 100 := by rw [List.length_cons]; omega
 have n2 : (ofL b :: ls').length ≤ 100 := by rw [List.length_cons]; omega
 have n3 : (nW :: nX :: ns').length ≤ 100 := by rw [List.length_cons, List.length_cons]; omega
 have n4 : (ofL c :: ofL b :: ls').length ≤ 100 := by rw [List.length_cons, List.length_cons]; omega
 have s2 : Ev (fun k => impl_command.f k (nW :: nX :: ns') (ofL c :: ofL b :: ls') (ofL (showL [119]))) (nW :: nX :: ns', ofL c :: ofL b :: ls', ofL c) :=
  run_show0 (x := [119]) (l := c) (j := 0) (by decide) (by decide) (by omega) (by omega) (ixE hiw) (by rw [List.length_cons]; omega) rfl hc0
 refine Runs.one (a0 := nW :: nX :: ns') (a1 := ofL c :: ofL b :: ls') ?_ (by decide) (Runs.one (a0 := nW :: nX :: ns') (a1 := ofL c :: ofL b :: ls') ?_ (by decide) (Runs.one (a0 := nW :: nX :: ns') (a1 := ofL c :: ofL b :: ls') (o' := []) s2 (by omega) ⟨rfl, rfl, rfl⟩))
 ·exact form_WAN (w := [99, 104, 101, 99, 107]) (a := [119]) (c := [120]) (d := Lib.itoa (m : Int)) (v := (m : Int)) (j := 0) (by simp only [List.forall_mem_cons]; exact ⟨by decide, by decide, by decide, m2, fun _ h => absurd h (by simp)⟩) (bnd (by simp only [List.forall_mem_cons]; exact ⟨by decide, by decide, by decide, by omega, fun _ h => absurd h (by simp)⟩) (show 4 ≤ 10 by decide)) Qr0_ (by decide) (by omega) (by omega) (ixE hix) (by rw [List.length_cons]; omega) (by omega) m1
   (ca_made ⟨nT (by decide), nT (by decide), nT (by decide), nT (by decide), nT (by decide)⟩ (made_check (bi := ofL b) h1) (put_ev (j := 0) (f := false) (bsE hbs) (by rw [List.length_cons, List.length_cons, hl]) n1 (fun h => by cases h) (fun _ => ⟨Nat.zero_le _, rfl, rfl⟩) hcon))
 ·exact form_AN (w := [118, 101, 114, 105, 102, 121]) (a := [119]) (c := Lib.itoa (m : Int)) (v := (m : Int)) (j := 0) (by simp only [List.forall_mem_cons]; exact ⟨by decide, by decide, m2, fun _ h => absurd h (by simp)⟩) (bnd (by simp only [List.forall_mem_cons]; exact ⟨by decide, by decide, by omega, fun _ h => absurd h (by simp)⟩) (show 3 ≤ 10 by decide)) Qr0_ (by decide) (by omega) (by omega) (ixE hiw) (by rw [List.length_cons]; omega) (by omega) m1
   (ca_verify (bi := ofL c) (show 0 < 1 by decide) h2)
theorem names5 : Op.bytesLess nX.toList nZ.toList = true := by decide +kernel
theorem con2z {a b : ByteArray} (ha : bitsB a = true) (hb : bitsB b = true) : conB [nX, nZ] [a, b] = true := by
 refine (conB_iff _ _).2 ⟨(show 2 ≤ 6 by decide), rfl, fun n hn => (conI_iff _ _ _).2 ?_⟩
 match n, hn with
 | 0, _ => exact ⟨names4.2.1, .inl rfl, ha⟩
 | 1, _ => exact ⟨names4.2.2.2.1, .inr names5, hb⟩
theorem conW2z {d a b : ByteArray} (hd : bitsB d = true) (ha : bitsB a = true) (hb : bitsB b = true) : conB [nW, nX, nZ] [d, a, b] = true := by
 refine (conB_iff _ _).2 ⟨(show 3 ≤ 6 by decide), rfl, fun n hn => (conI_iff _ _ _).2 ?_⟩
 match n, hn with
 | 0, _ => exact ⟨names4.1, .inl rfl, hd⟩
 | 1, _ => exact ⟨names4.2.1, .inr names4.2.2.2.2.1, ha⟩
 | 2, _ => exact ⟨names4.2.2.2.1, .inr names5, hb⟩
theorem strOfNums_sz2 (l : List Int) : (strOfNums l).size = l.length := by
 show (strOfNums l).data.size = _
 simp [strOfNums]
theorem AC_ev (p : Int) (s : ByteArray) (hn : s.size ≤ 1048576) : ∃ r, Ev (fun k => spec_AddCheck.f k p s) r ∧ Ev (fun k => impl_AddCheck.f k p s) r := by
 unfold spec_AddCheck.f impl_AddCheck.f
 simp only [l08Check_eq, IsCheck_eq, Option.bind_some, IsBits_eq s (by omega)]
 by_cases h1 : 2 ≤ p ∧ p ≤ 131071
 ·simp only [h1, and_self, decide_true, if_true]
  by_cases h2 : bitsB s = true
  ·obtain ⟨P, rfl⟩ := Int.eq_ofNat_of_zero_le (show 0 ≤ p by omega)
   have hb : s.data.toList.all isBitB = true := by unfold bitsB at h2; rw [Bool.and_eq_true] at h2; exact h2.1
   obtain ⟨c1, c2⟩ := checkBits_ev (p := P) (by omega) (by omega) s (by omega) hb
   have hd := deg16 (p := P) (by omega) (by omega)
   have hw : wrap64 ((s.size : Int) + (deg P : Int)) = (s.size : Int) + (deg P : Int) := w64 (by omega) (by omega)
   have hsz : s.size + (strOfNums (checkN P s.data.toList)).size ≤ 9223372036854775807 := by
    rw [strOfNums_sz2]; unfold checkN; rw [dgts_length]; omega
   have hdg := degree_eq (p := P) (by omega) (by omega)
   have hdv := l08Degree_ev (p := P) (by omega) (by omega)
   generalize deg P = D at hdg hdv hd hw
   by_cases h3 : (s.size : Int) + (D : Int) > 400
   ·refine ⟨(⟨#[]⟩, false), Ev.bind (l01Bits_ev s (by omega)) ?_, ?_⟩
    ·simp only [h2, if_true]
     refine Ev.bind hdv ?_
     simp only [hw, h3, if_true]; exact Ev.now _
    ·simp only [h2, if_true]
     refine Ev.bind (Ev.const hdg) ?_
     simp only [hw, h3, if_true]; exact Ev.now _
   ·refine ⟨(s ++ strOfNums (checkN P s.data.toList), true), Ev.bind (l01Bits_ev s (by omega)) ?_, ?_⟩
    ·simp only [h2, if_true]
     refine Ev.bind hdv ?_
     simp only [hw, h3, if_false]
     exact Ev.bind c2 (Ev.cond (fun _ => Ev.now _) (fun h => absurd hsz h))
    ·simp only [h2, if_true]
     refine Ev.bind (Ev.const hdg) ?_
     simp only [hw, h3, if_false]
     exact Ev.bind c1 (Ev.cond (fun _ => Ev.now _) (fun h => absurd hsz h))
  ·refine ⟨(⟨#[]⟩, false), Ev.bind (l01Bits_ev s (by omega)) ?_, ?_⟩
   ·simp only [h2, if_false]; exact Ev.now _
   ·simp only [h2, if_false]; exact Ev.now _
 ·simp only [h1, decide_false, Bool.false_eq_true, if_false]
  exact ⟨(⟨#[]⟩, false), Ev.now _, Ev.now _⟩
theorem l01Dec_l1 (ds : List Int) (hd : ds.length ≤ 1000) : ∀ (m : Nat) (out : List Int), m ≤ ds.length → out.length + m = ds.length → Ev (fun k => spec_l01Dec.l1 k ds out ((m : Int) - 1)) (strOfNums (out ++ (ds.take m).reverse)) := by
 intro m
 induction m with
 | zero =>
  intro out hm ho
  have c1 : ¬ (((0 : Nat) : Int) - 1) ≥ 0 := by omega
  rw [List.take_zero, List.reverse_nil, List.append_nil]
  apply Ev.succ
  simp only [spec_l01Dec.l1]
  exact Ev.cond (fun h' => absurd h' c1) (fun _ => Ev.now _)
 | succ m ih =>
  intro out hm ho
  have e : ((m + 1 : Nat) : Int) - 1 = (m : Int) := by omega
  rw [e]
  have c1 : (m : Int) ≥ 0 := by omega
  have c2 : (m : Int) < (ds.length : Int) := by omega
  have c3 : out.length < 140737488355328 := by omega
  have h3 := ih (out ++ [rd ds (m : Int)]) (by omega) (by rw [List.length_append, List.length_singleton]; omega)
  rw [take_rd (show m < ds.length by omega), List.reverse_append]
  rw [List.append_assoc] at h3
  apply Ev.succ
  simp only [spec_l01Dec.l1, w64 (show -9223372036854775808 ≤ (m : Int) - 1 by omega) (show (m : Int) - 1 ≤ 9223372036854775807 by omega)]
  refine Ev.cond (fun _ => ?_) (fun h' => absurd c1 h')
  refine Ev.cond (fun _ => ?_) (fun h' => absurd c1 h')
  refine Ev.cond (fun _ => ?_) (fun h' => absurd c2 h')
  exact Ev.cond (fun _ => h3) (fun h' => absurd c3 h')
theorem l01Dec_j1 (ds : List Int) (hd : ds.length ≤ 1000) : Ev (fun k => spec_l01Dec.j1 k ds) (strOfNums ds.reverse) := by
 have h := l01Dec_l1 ds hd ds.length [] (Nat.le_refl _) (by simp)
 rw [List.take_length, List.nil_append] at h
 apply Ev.succ
 simp only [spec_l01Dec.j1, w64 (show -9223372036854775808 ≤ (ds.length : Int) - 1 by omega) (show (ds.length : Int) - 1 ≤ 9223372036854775807 by omega)]
 exact h
theorem l01Dec_l0 (n : Int) (sg : Int) (hsg : sg = 1 ∨ sg = -1) : ∀ (u : Nat) (out : List Int), out.length + (revD u).length ≤ 500 → u ≤ 9223372036854775808 →
 Ev (fun k => spec_l01Dec.l0 k n out (sg * (u : Int))) (strOfNums ((out ++ revD u) ++ (if n < 0 then [45] else [])).reverse) := by
 intro u
 induction u using Nat.strongRecOn with
 | _ u ih =>
  intro out ho hu
  by_cases h0 : u = 0
  ·subst h0
   have c1 : sg * ((0 : Nat) : Int) = 0 := by simp
   rw [revD_zero] at ho ⊢
   rw [List.append_nil]
   simp only [List.length_nil, Nat.add_zero] at ho
   have c2 : out.length < 140737488355328 := by omega
   apply Ev.succ
   simp only [spec_l01Dec.l0, c1]
   refine Ev.cond (fun _ => ?_) (fun h' => absurd (by trivial) h')
   by_cases hn : n < 0
   ·rw [if_pos hn]
    refine Ev.cond (fun _ => ?_) (fun h' => absurd hn h')
    exact Ev.cond (fun _ => l01Dec_j1 _ (by rw [List.length_append, List.length_singleton]; omega)) (fun h' => absurd c2 h')
   ·rw [if_neg hn, List.append_nil]
    exact Ev.cond (fun h' => absurd h' hn) (fun _ => l01Dec_j1 _ (by omega))
  ·rw [revD_pos h0, List.length_cons] at ho
   have c2 : out.length < 140737488355328 := by omega
   have h3 := ih (u / 10) (by omega) (out ++ [48 + ((u % 10 : Nat) : Int)]) (by rw [List.length_append, List.length_singleton]; omega) (by omega)
   rw [show (out ++ [48 + ((u % 10 : Nat) : Int)]) ++ revD (u / 10) = out ++ revD u by rw [revD_pos h0, List.append_assoc, List.singleton_append]] at h3
   have et : Int.tmod (sg * (u : Int)) 10 = sg * ((u % 10 : Nat) : Int) := by
    rcases hsg with rfl | rfl
    ·rw [Int.one_mul, Int.one_mul]; rfl
    ·rw [Int.neg_mul, Int.one_mul, Int.neg_tmod, Int.neg_mul, Int.one_mul]; rfl
   have ed : Int.tdiv (sg * (u : Int)) 10 = sg * ((u / 10 : Nat) : Int) := by
    rcases hsg with rfl | rfl
    ·rw [Int.one_mul, Int.one_mul]; rfl
    ·rw [Int.neg_mul, Int.one_mul, Int.neg_tdiv, Int.neg_mul, Int.one_mul]; rfl
   have hne : ¬ sg * (u : Int) = 0 := by rcases hsg with rfl | rfl <;> omega
   have ew : wrap64 (sg * ((u / 10 : Nat) : Int)) = sg * ((u / 10 : Nat) : Int) := by rcases hsg with rfl | rfl <;> exact w64 (by omega) (by omega)
   have hm : u % 10 < 10 := Nat.mod_lt _ (by decide)
   apply Ev.succ
   simp only [spec_l01Dec.l0, et, ed, ew]
   refine Ev.cond (fun h' => absurd h' hne) (fun _ => ?_)
   by_cases hneg : sg * ((u % 10 : Nat) : Int) < 0
   ·refine Ev.cond (fun _ => ?_) (fun h' => absurd hneg h')
    have es : sg = -1 := by rcases hsg with rfl | rfl; exact absurd hneg (by omega); rfl
    subst es
    rw [w64 (show -9223372036854775808 ≤ -(-1 * ((u % 10 : Nat) : Int)) by omega) (by omega), w64 (show -9223372036854775808 ≤ 48 + -(-1 * ((u % 10 : Nat) : Int)) by omega) (by omega), show (48 + -(-1 * ((u % 10 : Nat) : Int))) % 256 = 48 + ((u % 10 : Nat) : Int) by omega]
    exact Ev.cond (fun _ => h3) (fun h' => absurd c2 h')
   ·refine Ev.cond (fun h' => absurd h' hneg) (fun _ => ?_)
    have es : sg * ((u % 10 : Nat) : Int) = ((u % 10 : Nat) : Int) := by rcases hsg with rfl | rfl <;> omega
    rw [es, w64 (show -9223372036854775808 ≤ 48 + ((u % 10 : Nat) : Int) by omega) (by omega), show (48 + ((u % 10 : Nat) : Int)) % 256 = 48 + ((u % 10 : Nat) : Int) by omega]
    exact Ev.cond (fun _ => h3) (fun h' => absurd c2 h')
theorem l01Dec_ev (n : Int) (h1 : -9223372036854775808 ≤ n) (h2 : n ≤ 9223372036854775807) : Ev (fun k => spec_l01Dec.f k n) (ofL (Lib.itoa n)) := by
 unfold spec_l01Dec.f
 by_cases h0 : n = 0
 ·subst h0
  refine Ev.cond (fun _ => ?_) (fun h' => absurd rfl h')
  have e : ofL (Lib.itoa 0) = (⟨#[48]⟩ : ByteArray) := by
   unfold Lib.itoa
   rw [if_neg (by decide), Lib.decDigits]
   rfl
  rw [e]
  exact Ev.now _
 ·refine Ev.cond (fun h' => absurd h' h0) (fun _ => ?_)
  obtain ⟨sg, u, hsg, hu, hn⟩ : ∃ (sg : Int) (u : Nat), (sg = 1 ∨ sg = -1) ∧ n = sg * (u : Int) ∧ (sg = -1 ↔ n < 0) := by
   by_cases hneg : n < 0
   ·exact ⟨-1, n.natAbs, .inr rfl, by omega, by omega⟩
   ·exact ⟨1, n.toNat, .inl rfl, by omega, by omega⟩
  have hub : u ≤ 9223372036854775808 := by rcases hsg with rfl | rfl <;> omega
  have hu0 : u ≠ 0 := by rintro rfl; rw [hu] at h0; simp at h0
  have hl := revD_len20 20 u (Nat.lt_of_le_of_lt hub (by decide))
  have h3 := l01Dec_l0 n sg hsg u [] (by rw [List.length_nil]; omega) hub
  rw [← hu, List.nil_append] at h3
  have e : strOfNums ((revD u) ++ (if n < 0 then [45] else [])).reverse = ofL (Lib.itoa n) := by
   apply ByteArray.ext
   apply Array.ext'
   show List.map (fun n : Int => UInt8.ofNat n.toNat) _ = Lib.itoa n
   unfold Lib.itoa
   by_cases hneg : n < 0
   ·rw [if_pos hneg, if_pos hneg, List.reverse_append, List.map_append, show n.natAbs = u by rcases hsg with rfl | rfl <;> omega, revD_dec u hu0]; rfl
   ·rw [if_neg hneg, if_neg hneg, List.append_nil, show n.toNat = u by rcases hsg with rfl | rfl <;> omega, revD_dec u hu0]
  rw [e] at h3
  exact h3
theorem BlockInterleave_l0 (rows cols : Nat) (s : ByteArray) (ho : rows ≤ 20) (hi : cols ≤ 20) (hs : s.size = rows * cols) (hb : rows * cols ≤ 400) :
 ∀ (d o : Nat), o + d = cols → Ev (fun k => spec_BlockInterleave.l0 k (rows : Int) (cols : Int) s (pre (fun k => bt s (place cols rows k : Nat)) (o * rows)) (o : Int)) (strOfNums (pre (fun k => bt s (place cols rows k : Nat)) (rows * cols)), true) := by
 intro d
 induction d with
 | zero =>
  intro o h
  obtain rfl : cols = o := by omega
  have c1 : ¬ (((cols : Nat) : Int) < ((cols : Nat) : Int)) := by omega
  apply Ev.succ
  simp only [spec_BlockInterleave.l0, c1, if_false]
  rw [Nat.mul_comm cols rows]; exact Ev.now _
 | succ d ih =>
  intro o h
  have c1 : (o : Int) < ((cols : Nat) : Int) := by omega
  have hlt : o < cols := by omega
  have hmul : o * rows + rows ≤ rows * cols := by
   have h1 : (o + 1) * rows ≤ cols * rows := Nat.mul_le_mul_right _ hlt
   rw [Nat.succ_mul] at h1
   rw [Nat.mul_comm cols rows] at h1; omega
  have h3 := ih (o + 1) (by omega)
  have inner : ∀ (e i : Nat), i + e = rows → Ev (fun k => spec_BlockInterleave.l1 k (rows : Int) (cols : Int) s (pre (fun k => bt s (place cols rows k : Nat)) (o * rows + i)) (o : Int) (i : Int)) (strOfNums (pre (fun k => bt s (place cols rows k : Nat)) (rows * cols)), true) := by
   intro e
   induction e with
   | zero =>
    intro i h2
    obtain rfl : rows = i := by omega
    have c2 : ¬ (((rows : Nat) : Int) < ((rows : Nat) : Int)) := by omega
    apply Ev.succ
    simp only [spec_BlockInterleave.l1, c2, if_false, w64_succ (show o < 9223372036854775807 by omega)]
    rw [Nat.succ_mul] at h3
    exact h3
   | succ e ihe =>
    intro i h2
    have c2 : (i : Int) < ((rows : Nat) : Int) := by omega
    have hp : place cols rows (o * rows + i) = i * cols + o := by
     unfold place
     have hin : i < rows := by omega
     rw [Nat.mul_comm o, Nat.mul_add_mod, Nat.mod_eq_of_lt hin, Nat.mul_add_div (by omega), Nat.div_eq_of_lt hin, Nat.add_zero]
    have hidx : i * cols + o < s.size := by
     rw [hs]
     have h4 : (i + 1) * cols ≤ rows * cols := Nat.mul_le_mul_right _ (by omega)
     rw [Nat.succ_mul] at h4
     omega
    have hprod : (i : Int) * (cols : Int) = ((i * cols : Nat) : Int) := by push_cast; rfl
    have hsz : s.size ≤ 400 := by rw [hs]; exact hb
    generalize i * cols = m at hp hidx hprod
    have w1 : wrap64 ((i : Int) * (cols : Int)) = (m : Int) := by rw [hprod]; exact w64 (by omega) (by omega)
    have hmo : m + o ≤ 9223372036854775807 := Nat.le_trans (Nat.le_of_lt hidx) (Nat.le_trans hsz (by decide))
    have w2 : wrap64 ((m : Int) + (o : Int)) = ((m + o : Nat) : Int) := w64_add m o hmo
    have c3 : (0 : Int) ≤ ((m + o : Nat) : Int) := Int.natCast_nonneg _
    have c4 : ((m + o : Nat) : Int) < (s.size : Int) := Int.ofNat_lt.2 hidx
    have c5 : (pre (fun k => bt s (place cols rows k : Nat)) (o * rows + i)).length < 140737488355328 := by rw [pre_length]; omega
    have h5 := ihe (i + 1) (by omega)
    rw [← Nat.add_assoc, pre_succ, hp] at h5
    apply Ev.succ
    simp only [spec_BlockInterleave.l1]
    refine Ev.cond (fun _ => ?_) (fun h' => absurd c2 h')
    rw [w1, w2]
    refine Ev.cond (fun _ => ?_) (fun h' => absurd c3 h')
    refine Ev.cond (fun _ => ?_) (fun h' => absurd c4 h')
    refine Ev.cond (fun _ => ?_) (fun h' => absurd c5 h')
    rw [w64_succ (show i < 9223372036854775807 by omega)]
    exact h5
  apply Ev.succ
  simp only [spec_BlockInterleave.l0, c1, if_true]
  exact inner rows 0 (by omega)
theorem BIx_ev (a b : Int) (s : ByteArray) (hn : s.size ≤ 1099511627776) : ∃ r, Ev (fun k => spec_BlockInterleave.f k a b s) r ∧ Ev (fun k => impl_BlockInterleave.f k a b s) r := by
 refine ⟨if fitsB a b s = true then (strOfNums (pre (fun k => bt s (place b.toNat a.toNat k : Nat)) s.size), true) else (⟨#[]⟩, false), ?_, BI_ev a b s hn⟩
 unfold spec_BlockInterleave.f
 refine Ev.bind (l08Fits_ev a b s hn) ?_
 by_cases h : fitsB a b s = true
 ·obtain ⟨r, c, rfl, rfl, hr, hr2, hc, hc2, hs, hb, _⟩ := fitsB_nat h
  simp only [h, if_true, Int.toNat_natCast]
  have h3 := BlockInterleave_l0 r c s hr2 hc2 hs hb c 0 (by omega)
  rw [Nat.zero_mul] at h3
  rw [hs]
  exact h3
 ·simp only [h, if_false]; exact Ev.now _
theorem lst_l0 (xs : List Int) (hn : xs.length ≤ 17592186044416) : ∀ d n, n + d = xs.length → Ev (fun k => spec_l01List.l0 k xs (n : Int)) (inAll (-1000000000000000) 1000000000000000 (xs.drop n) && decide (xs.length ≤ 64)) := by
 intro d
 induction d with
 | zero =>
  intro n h
  apply Ev.succ
  have h2 : xs.drop n = [] := List.drop_eq_nil_of_le (by omega)
  have h3 : ((xs.length : Int) ≤ 64) = (xs.length ≤ 64) := propext ⟨fun h => by omega, fun h => by omega⟩
  simp only [spec_l01List.l0, h2, h3]
  exact Ev.cond (fun h' => absurd h' (by omega)) (fun _ => Ev.now _)
 | succ d ih =>
  intro n h
  apply Ev.succ
  have h3 := ih (n + 1) (by omega)
  rw [drop_rd (show n < xs.length by omega), inAll_cons]
  simp only [spec_l01List.l0, w64_succ (show n < 9223372036854775807 by omega)]
  refine Ev.cond (fun _ => ?_) (fun h' => absurd (by omega) h')
  refine Ev.cond (fun _ => ?_) (fun h' => absurd (by omega) h')
  refine Ev.bind (Ev.const (l00In_eq _ _ _)) ?_
  by_cases hc : -1000000000000000 ≤ rd xs (n : Int) ∧ rd xs (n : Int) ≤ 1000000000000000
  ·rw [decide_eq_true hc]
   exact Ev.cond (fun _ => h3) (fun h' => absurd rfl h')
  ·rw [decide_eq_false hc]
   exact Ev.cond (fun h' => absurd h' (by decide)) (fun _ => Ev.now _)
theorem tx_l0 (xs : List Int) (hl : xs.length ≤ 64) (hin : inAll (-1000000000000000) 1000000000000000 xs = true) : ∀ (d n : Nat) (s : ByteArray), n + d = xs.length → s.size ≤ 40 * n → TP (fun k => spec_l01Text.l0 k xs s (n : Int)) (fun _ => True) := by
 intro d
 induction d with
 | zero =>
  intro n s h hs
  apply TP.succ
  simp only [spec_l01Text.l0]
  exact TP.no (by omega) (TP.cond (fun _ => TP.ret trivial) (fun _ => TP.ret trivial))
 | succ d ih =>
  intro n s h hs
  have hr := inAll_rd hin (show n < xs.length by omega)
  have hz := itoa_len _ hr.1 hr.2
  have hd := l01Dec_ev (rd xs (n : Int)) (by omega) (by omega)
  have c1 : (⟨#[44]⟩ : ByteArray).size = 1 := rfl
  apply TP.succ
  simp only [spec_l01Text.l0, w64_succ (show n < 9223372036854775807 by omega)]
  refine TP.yes (by omega) (TP.cond (fun _ => ?_) (fun _ => ?_))
  ·refine TP.yes (by omega) (TP.yes (by omega) (TP.ev hd (TP.yes ?_ (ih (n + 1) _ (by omega) ?_))))
   ·rw [ByteArray.size_append, ofL_size, c1]; omega
   ·rw [ByteArray.size_append, ByteArray.size_append, ofL_size, c1]; omega
  ·refine TP.yes (by omega) (TP.ev hd (TP.yes ?_ (ih (n + 1) _ (by omega) ?_)))
   ·rw [ofL_size]; omega
   ·rw [ByteArray.size_append, ofL_size]; omega
theorem list_both (xs : List Int) (hn : xs.length ≤ 17592186044416) : ∃ (b : Bool) (t s : ByteArray), Ev (fun k => impl_ListText.f k xs) (t, b) ∧ Ev (fun k => spec_ListText.f k xs) (s, b) ∧ (b = true → xs.length ≤ 64) := by
 have h1 : Ev (fun k => spec_l01List.f k xs) (inAll (-1000000000000000) 1000000000000000 xs && decide (xs.length ≤ 64)) := lst_l0 xs hn xs.length 0 (by omega)
 by_cases hl : xs.length ≤ 64
 ·by_cases hin : inAll (-1000000000000000) 1000000000000000 xs = true
  ·obtain ⟨s, e2, _⟩ := tx_l0 xs hl hin xs.length 0 (⟨#[]⟩ : ByteArray) (by omega) (Nat.zero_le _)
   obtain ⟨t, e3, _⟩ : TP (fun k => impl_listText.f k xs) (fun _ => True) := by
    unfold impl_listText.f
    refine TP.cond (fun _ => TP.ret trivial) (fun _ => ?_)
    exact (lt_l0 xs hl hin xs.length 0 [] (by omega) (Nat.zero_le _) (fun x hx => absurd hx (by simp))).mono (fun _ _ => trivial)
   refine ⟨true, t, s, ?_, ?_, fun _ => hl⟩
   ·unfold impl_ListText.f
    refine Ev.cond (fun h' => absurd h' (by omega)) (fun _ => Ev.bind (areIn_ev _ _ xs (by omega)) ?_)
    rw [hin]
    exact Ev.cond (fun _ => Ev.bind e3 (Ev.now _)) (fun h' => absurd rfl h')
   ·unfold spec_ListText.f
    refine Ev.bind h1 ?_
    rw [hin, decide_eq_true hl]
    exact Ev.cond (fun _ => Ev.bind e2 (Ev.now _)) (fun h' => absurd rfl h')
  ·refine ⟨false, (⟨#[]⟩ : ByteArray), (⟨#[]⟩ : ByteArray), ?_, ?_, fun h => by cases h⟩
   ·unfold impl_ListText.f
    refine Ev.cond (fun h' => absurd h' (by omega)) (fun _ => Ev.bind (areIn_ev _ _ xs (by omega)) ?_)
    exact Ev.cond (fun h' => absurd h' hin) (fun _ => Ev.now _)
   ·unfold spec_ListText.f
    refine Ev.bind h1 ?_
    rw [Bool.eq_false_iff.2 hin]
    exact Ev.cond (fun h' => absurd h' (by simp)) (fun _ => Ev.now _)
 ·refine ⟨false, (⟨#[]⟩ : ByteArray), (⟨#[]⟩ : ByteArray), ?_, ?_, fun h => by cases h⟩
  ·unfold impl_ListText.f
   exact Ev.cond (fun _ => Ev.now _) (fun h' => absurd (by omega) h')
  ·unfold spec_ListText.f
   refine Ev.bind h1 ?_
   rw [decide_eq_false hl, Bool.and_false]
   exact Ev.cond (fun h' => absurd h' (by decide)) (fun _ => Ev.now _)
theorem is24 : Ev (fun k => spec_l03Is.f k 2 4 W24 W24) true := Ev.of_mono (fun k => spec_l03Is.mono 2 4 W24 W24 k) 40 Qr0_
theorem nx24 : ∀ m, m < 4 → spec_l03Next.f 20 (-1) (sn W24 m) = some (-1) := by decide +kernel
theorem nxE {m : Nat} (h : m < 4) : Ev (fun k => spec_l03Next.f k (-1) (sn W24 m)) (-1) := Ev.of_mono (fun k => spec_l03Next.mono (-1) (sn W24 m) k) 20 (nx24 m h)
def enc24R (ds : List Int) (out : ByteArray) : ByteArray × Int × Bool := if inAll 0 3 ds = true then (out ++ ofL (bL ds), -1, true) else ((⟨#[]⟩ : ByteArray), 0, false)
theorem shl2 : wrap64 ((shl .i64 1 2) - 1) = 3 := by decide +kernel
theorem w24_sz : ∀ m, m < 4 → (sn W24 m).size = 4 := by decide +kernel
theorem senc_l0 (ds : List Int) (hl : ds.length ≤ 100) : ∀ d n (out : ByteArray), n + d = ds.length → out.size ≤ 4 * n → Ev (fun k => spec_l03Encode.l0 k 2 W24 W24 ds out (-1) (n : Int)) (enc24R (ds.drop n) out) := by
 intro d
 induction d with
 | zero =>
  intro n out h ho
  have e : out ++ ofL (bL []) = out := ByteArray.append_empty
  apply Ev.succ
  rw [List.drop_eq_nil_of_le (show ds.length ≤ n by omega)]
  simp only [spec_l03Encode.l0]
  refine Ev.cond (fun h' => absurd h' (by omega)) (fun _ => ?_)
  unfold enc24R
  rw [if_pos (show inAll 0 3 [] = true from rfl), e]
  exact Ev.now _
 | succ d ih =>
  intro n out h ho
  apply Ev.succ
  simp only [spec_l03Encode.l0, shl2, w64_succ (show n < 9223372036854775807 by omega)]
  refine Ev.cond (fun _ => ?_) (fun h' => absurd (by omega) h')
  refine Ev.cond (fun _ => ?_) (fun h' => absurd (by omega) h')
  refine Ev.bind (Ev.const (l00In_eq _ _ _)) ?_
  have ed : ds.drop n = rd ds (n : Int) :: ds.drop (n + 1) := drop_rd (show n < ds.length by omega)
  by_cases hc : 0 ≤ rd ds (n : Int) ∧ rd ds (n : Int) ≤ 3
  ·rw [decide_eq_true hc]
   obtain ⟨m, hm⟩ := Int.eq_ofNat_of_zero_le hc.1
   have hm4 : m < 4 := by omega
   have hw := w24_sz m hm4
   have e1 : rdOf ByteArray.empty W24 ((m : Nat) : Int) = sn W24 m := sr_nat W24 m
   have ite_ : ∀ (α : Type) (a b : α), (if (-1 : Int) < 0 then a else b) = a := fun _ a b => if_pos (by decide)
   simp only [hm, ite_, e1]
   have h3 := ih (n + 1) (out ++ sn W24 m) (by omega) (by rw [ByteArray.size_append, hw]; omega)
   have e3 : enc24R (ds.drop (n + 1)) (out ++ sn W24 m) = enc24R (ds.drop n) out := by
    unfold enc24R
    rw [ed, inAll_cons, decide_eq_true hc, Bool.true_and, bL_cons, hm, ← ofL_app, Int.toNat_natCast, ofL_of, ByteArray.append_assoc]
   rw [e3] at h3
   refine Ev.cond (fun _ => ?_) (fun h' => absurd trivial h')
   refine Ev.cond (fun _ => ?_) (fun h' => absurd (by omega) h')
   refine Ev.cond (fun _ => ?_) (fun h' => absurd (by show (m : Int) < 4; omega) h')
   refine Ev.cond (fun _ => ?_) (fun h' => absurd (by omega) h')
   exact Ev.bind (nxE hm4) h3
  ·rw [decide_eq_false hc]
   refine Ev.cond (fun h' => absurd h' (by decide)) (fun _ => ?_)
   unfold enc24R
   rw [ed, inAll_cons, decide_eq_false hc, Bool.false_and, if_neg (by decide)]
   exact Ev.now _
theorem d4_in {ds : List Int} : inAll 0 3 ds = true ↔ d4 ds := by
 unfold inAll d4
 rw [List.all_eq_true]
 exact ⟨fun h x hx => by have := of_decide_eq_true (h x hx); omega, fun h x hx => decide_eq_true (by have := h x hx; omega)⟩
theorem enc_both (ds : List Int) (hn : ds.length ≤ 17592186044416) : ∃ r : ByteArray × Int × Bool, Ev (fun k => impl_EncodeBlocks.f k 2 4 W24 W24 (-1) ds) r ∧ Ev (fun k => spec_EncodeBlocks.f k 2 4 W24 W24 (-1) ds) r ∧ ((d4 ds ∧ r = (ofL (bL ds), -1, true)) ∨ r.2.2 = false) := by
 have hs : ∀ r, Ev (fun k => spec_l03Encode.f k 2 4 W24 W24 (-1) ds) r → Ev (fun k => spec_EncodeBlocks.f k 2 4 W24 W24 (-1) ds) r := fun r h => by
  unfold spec_EncodeBlocks.f
  refine Ev.bind is24 (Ev.cond (fun _ => ?_) (fun h' => absurd rfl h'))
  exact Ev.bind (Ev.const (show spec_l03State.f (-1) = some true from by decide)) (Ev.cond (fun _ => h) (fun h' => absurd rfl h'))
 by_cases hl : ds.length ≤ 100
 ·have h2 := senc_l0 ds hl ds.length 0 (⟨#[]⟩ : ByteArray) (by omega) (Nat.zero_le _)
  rw [List.drop_zero] at h2
  have h3 : Ev (fun k => spec_l03Encode.f k 2 4 W24 W24 (-1) ds) (enc24R ds (⟨#[]⟩ : ByteArray)) := by
   unfold spec_l03Encode.f
   refine Ev.cond (fun _ => ?_) (fun h' => absurd (by decide) h')
   exact Ev.cond (fun h' => absurd h' (by omega)) (fun _ => h2)
  by_cases hd : d4 ds
  ·have e : enc24R ds (⟨#[]⟩ : ByteArray) = (ofL (bL ds), -1, true) := by
    unfold enc24R
    rw [if_pos (d4_in.2 hd), show (⟨#[]⟩ : ByteArray) ++ ofL (bL ds) = ofL (bL ds) from ByteArray.empty_append]
   rw [e] at h3
   exact ⟨_, enc24 ds hd hl, hs _ h3, .inl ⟨hd, rfl⟩⟩
  ·have hd2 : inAll 0 3 ds = false := Bool.eq_false_iff.2 (fun h => hd (d4_in.1 h))
   have e : enc24R ds (⟨#[]⟩ : ByteArray) = ((⟨#[]⟩ : ByteArray), 0, false) := by
    unfold enc24R
    rw [hd2, if_neg (by decide)]
   rw [e] at h3
   refine ⟨_, ?_, hs _ h3, .inr rfl⟩
   unfold impl_EncodeBlocks.f
   refine Ev.bind vb24 (Ev.cond (fun _ => Ev.cond (fun _ => ?_) (fun h' => absurd (by decide) h')) (fun h' => absurd rfl h'))
   refine Ev.bind (Ev.const (lineState_eq _)) (Ev.cond (fun _ => ?_) (fun h' => absurd (by decide) h'))
   rw [shl24]
   refine Ev.bind (areIn_ev 0 3 ds (by omega)) ?_
   rw [hd2]
   exact Ev.cond (fun h' => absurd h' (by decide)) (fun _ => Ev.now _)
 ·have h3 : Ev (fun k => spec_l03Encode.f k 2 4 W24 W24 (-1) ds) ((⟨#[]⟩ : ByteArray), 0, false) := by
   unfold spec_l03Encode.f
   refine Ev.cond (fun _ => ?_) (fun h' => absurd (by decide) h')
   exact Ev.cond (fun _ => Ev.now _) (fun h' => absurd (by omega) h')
  refine ⟨_, ?_, hs _ h3, .inr rfl⟩
  unfold impl_EncodeBlocks.f
  refine Ev.bind vb24 (Ev.cond (fun _ => Ev.cond (fun _ => ?_) (fun h' => absurd (by decide) h')) (fun h' => absurd rfl h'))
  refine Ev.bind (Ev.const (lineState_eq _)) (Ev.cond (fun _ => ?_) (fun h' => absurd (by decide) h'))
  rw [shl24]
  refine Ev.bind (areIn_ev 0 3 ds (by omega)) ?_
  refine Ev.cond (fun _ => ?_) (fun _ => Ev.now _)
  exact Ev.cond (fun _ => Ev.now _) (fun h' => absurd (by omega) h')
def byN (l : List UInt8) : List Int := l.map fun b => (b.toNat : Int)
theorem byN_str (l : List UInt8) : strOfNums (byN l) = ofL l := by
 unfold byN strOfNums ofL
 rw [List.map_map]
 congr 2
 conv => rhs; rw [← List.map_id l]
 exact List.map_congr_left (fun x _ => by simp)
theorem srep_l0 (b : List UInt8) (hl : b.length ≤ 400) : ∀ d n (o : List Int), n + d = b.length → o.length ≤ 3 * n → Ev (fun k => spec_RepeatBits.l0 k (ofL b) 3 o (n : Int)) (strOfNums (o ++ byN (r3 (b.drop n))), true) := by
 intro d
 induction d with
 | zero =>
  intro n o h ho
  rw [List.drop_eq_nil_of_le (show b.length ≤ n by omega), show byN (r3 []) = [] from rfl, List.append_nil]
  apply Ev.succ
  simp only [spec_RepeatBits.l0, ofL_size]
  exact Ev.cond (fun h' => absurd h' (by omega)) (fun _ => Ev.now _)
 | succ d ih =>
  intro n o h ho
  have hn : n < b.length := by omega
  have hb : bt (ofL b) (n : Int) = ((b[n]).toNat : Int) := ofL_bt hn
  have e : o ++ byN (r3 (b.drop n)) = (o ++ [((b[n]).toNat : Int)] ++ [((b[n]).toNat : Int)] ++ [((b[n]).toNat : Int)]) ++ byN (r3 (b.drop (n + 1))) := by
   rw [List.drop_eq_getElem_cons hn]
   simp [byN, r3]
  have h3 := ih (n + 1) (o ++ [((b[n]).toNat : Int)] ++ [((b[n]).toNat : Int)] ++ [((b[n]).toNat : Int)]) (by omega) Qk0_
  rw [← e] at h3
  have step : ∀ (j : Nat) (q : List Int) (r : ByteArray × Bool), j < 3 → q.length ≤ 1000000 → Ev (fun k => spec_RepeatBits.l1 k (ofL b) 3 (q ++ [((b[n]).toNat : Int)]) (n : Int) ((j + 1 : Nat) : Int)) r → Ev (fun k => spec_RepeatBits.l1 k (ofL b) 3 q (n : Int) (j : Int)) r := by
   intro j q r hj hq hh
   apply Ev.succ
   simp only [spec_RepeatBits.l1, ofL_size, hb, w64_succ (show j < 9223372036854775807 by omega)]
   refine Ev.cond (fun _ => ?_) (fun h' => absurd (by omega) h')
   refine Ev.cond (fun _ => ?_) (fun h' => absurd (by omega) h')
   refine Ev.cond (fun _ => ?_) (fun h' => absurd (by omega) h')
   exact Ev.cond (fun _ => hh) (fun h' => absurd (by omega) h')
  apply Ev.succ
  simp only [spec_RepeatBits.l0, ofL_size]
  refine Ev.cond (fun _ => ?_) (fun h' => absurd (by omega) h')
  refine step 0 _ _ (by decide) (by omega) (step 1 _ _ (by decide) Qk0_ (step 2 _ _ (by decide) Qk0_ ?_))
  apply Ev.succ
  simp only [spec_RepeatBits.l1, w64_succ (show n < 9223372036854775807 by omega)]
  exact Ev.cond (fun h' => absurd h' (by decide)) (fun _ => h3)
theorem rep_both (b : List UInt8) (hl : b.length ≤ 400) (hb : b.all isBitB = true) : ∃ r : ByteArray × Bool, Ev (fun k => impl_RepeatBits.f k (ofL b) 3) r ∧ Ev (fun k => spec_RepeatBits.f k (ofL b) 3) r ∧ ((b.length ≤ 133 ∧ r = (ofL (r3 b), true)) ∨ r.2 = false) := by
 have hbb : bitsB (ofL b) = true := bitsB_allT (by rw [ofL_data]; exact hb) (by rw [ofL_size]; exact hl)
 have hv : spec_l07Votes.f 3 = some true := by decide
 by_cases h : b.length ≤ 133
 ·refine ⟨(ofL (r3 b), true), rep3 (ofL b) Qb1_ (by rw [ofL_data]; exact hb), ?_, .inl ⟨h, rfl⟩⟩
  unfold spec_RepeatBits.f
  refine Ev.bind (l01Bits_ev (ofL b) Qb1_) ?_
  rw [hbb]
  refine Ev.cond (fun _ => Ev.bind (Ev.const hv) (Ev.cond (fun _ => ?_) (fun h' => absurd rfl h'))) (fun h' => absurd rfl h')
  have e : decide ((wrap64 (((ofL b).size : Int) * 3)) > 400) = false := decide_eq_false (by rw [ofL_size, w64 (by omega) (by omega)]; omega)
  rw [e]
  apply Ev.succ
  simp only [spec_RepeatBits.j0]
  refine Ev.cond (fun h' => absurd h' Bool.false_ne_true) (fun _ => ?_)
  have := srep_l0 b hl b.length 0 [] (by omega) (Nat.zero_le _)
  rw [List.drop_zero, List.nil_append, byN_str] at this
  exact this
 ·have e : decide ((wrap64 (((ofL b).size : Int) * 3)) > 400) = true := decide_eq_true (by rw [ofL_size, w64 (by omega) (by omega)]; omega)
  refine ⟨((⟨#[]⟩ : ByteArray), false), ?_, ?_, .inr rfl⟩
  ·unfold impl_RepeatBits.f
   refine Ev.bind (Ev.const (IsBits_eq (ofL b) Qb1_)) ?_
   rw [hbb]
   refine Ev.cond (fun _ => Ev.bind (Ev.const (isVotes_eq 3)) (Ev.cond (fun _ => ?_) (fun h' => absurd (by decide) h'))) (fun h' => absurd rfl h')
   rw [e]
   apply Ev.succ
   simp only [impl_RepeatBits.j0]
   exact Ev.cond (fun _ => Ev.now _) (fun h' => absurd trivial h')
  ·unfold spec_RepeatBits.f
   refine Ev.bind (l01Bits_ev (ofL b) Qb1_) ?_
   rw [hbb]
   refine Ev.cond (fun _ => Ev.bind (Ev.const hv) (Ev.cond (fun _ => ?_) (fun h' => absurd rfl h'))) (fun h' => absurd rfl h')
   rw [e]
   apply Ev.succ
   simp only [spec_RepeatBits.j0]
   exact Ev.cond (fun _ => Ev.now _) (fun h' => absurd trivial h')
theorem add_both (p : Int) (s : ByteArray) (hs : s.size ≤ 300) (hb : s.data.toList.all isBitB = true) : (∃ P : Nat, p = (P : Int) ∧ 2 ≤ P ∧ P ≤ 131071 ∧ Ev (fun k => impl_AddCheck.f k p s) (s ++ chk P s, true) ∧ Ev (fun k => spec_AddCheck.f k p s) (s ++ chk P s, true) ∧ Ev (fun k => impl_HasCheck.f k p (s ++ chk P s)) true) ∨ (Ev (fun k => impl_AddCheck.f k p s) ((⟨#[]⟩ : ByteArray), false) ∧ Ev (fun k => spec_AddCheck.f k p s) ((⟨#[]⟩ : ByteArray), false)) := by
 by_cases h1 : 2 ≤ p ∧ p ≤ 131071
 ·obtain ⟨P, rfl⟩ := Int.eq_ofNat_of_zero_le (show 0 ≤ p by omega)
  have a1 := addT (p := P) (by omega) (by omega) s hs hb
  obtain ⟨r, q1, q2⟩ := AC_ev (P : Int) s (by omega)
  rw [Ev.det q2 a1] at q1
  exact .inl ⟨P, rfl, by omega, by omega, a1, q1, hasT' (by omega) (by omega) s hs hb⟩
 ·refine .inr ⟨?_, ?_⟩
  ·unfold impl_AddCheck.f
   simp only [IsCheck_eq, Option.bind_some, h1, decide_false, Bool.false_eq_true, if_false]
   exact Ev.now _
  ·unfold spec_AddCheck.f
   simp only [l08Check_eq, Option.bind_some, h1, decide_false, Bool.false_eq_true, if_false]
   exact Ev.now _
theorem litL (l : List UInt8) : (⟨l.toArray⟩ : ByteArray) = ofL l := rfl
theorem jn2 (a b : List UInt8) : Lib.join [a, b] [32] = a ++ 32 :: b := by simp [Lib.join, List.intercalate]
theorem jn3 (a b c : List UInt8) : Lib.join [a, b, c] [32] = a ++ 32 :: (b ++ 32 :: c) := by simp [Lib.join, List.intercalate]
theorem jn4 (a b c d : List UInt8) : Lib.join [a, b, c, d] [32] = a ++ 32 :: (b ++ 32 :: (c ++ 32 :: d)) := by simp [Lib.join, List.intercalate]
theorem jn5 (a b c d e : List UInt8) : Lib.join [a, b, c, d, e] [32] = a ++ 32 :: (b ++ 32 :: (c ++ 32 :: (d ++ 32 :: e))) := by simp [Lib.join, List.intercalate]
theorem jn6 (a b c d e f : List UInt8) : Lib.join [a, b, c, d, e, f] [32] = a ++ 32 :: (b ++ 32 :: (c ++ 32 :: (d ++ 32 :: (e ++ 32 :: f)))) := by simp [Lib.join, List.intercalate]
def St (q : Nat) (ws : List (List UInt8)) (o : List UInt8) (ns ls : List ByteArray) : Prop := Runs ws [] [] o ns ls ∧ (∀ x ∈ ws, (10 : UInt8) ∉ x) ∧ conB ns ls = true ∧ ws.length ≤ 4 * q ∧ (scr ws).length ≤ 300 * q ∧ o.length ≤ 1000 * q
theorem St.app {q : Nat} {ws l2 : List (List UInt8)} {o o2 : List UInt8} {ns ls ps pl : List ByteArray} (h : St q ws o ns ls) (h2 : Runs l2 ns ls o2 ps pl) (hn : ∀ x ∈ l2, (10 : UInt8) ∉ x) (hc : conB ps pl = true) (h3 : l2.length ≤ 4) (h4 : (scr l2).length ≤ 300) (h5 : o2.length ≤ 1000) : St (q + 1) (ws ++ l2) (o ++ o2) ps pl := by
 obtain ⟨a1, a2, a3, a4, a5, a6⟩ := h
 refine ⟨Runs.app _ _ _ _ _ _ _ _ _ _ a1 h2, fun x hx => ?_, hc, by rw [List.length_append]; omega, by rw [scr_app, List.length_append]; omega, by rw [List.length_append]; omega⟩
 rcases List.mem_append.1 hx with h | h
 ·exact a2 x h
 ·exact hn x h
theorem j10_ev {q : Nat} (hq : q ≤ 4) {ws : List (List UInt8)} {o : List UInt8} {ns ls : List ByteArray} (h : St q ws o ns ls) : Ev (fun k => laws_FnTopOfAll.j10 k (ofL o) (ofL (scr ws))) true := by
 obtain ⟨a1, a2, a3, a4, a5, a6⟩ := h
 have hc := (conB_iff ns ls).1 a3
 have rr := runs_f ws (by omega) a2 (by omega) (show ns.length ≤ 1000 by omega) (show ls.length ≤ 1000 by omega) a1
 obtain ⟨v1, ev1, hv1⟩ := valid_TP ns ls (by omega) (by omega) (fun x hx => by have := con_names_le a3 x hx; omega) (fun x hx => by have := (con_lines_le a3 x hx).1; omega)
 rw [hv1.trans a3] at ev1
 apply Ev.succ
 simp only [laws_FnTopOfAll.j10]
 refine Ev.bind rr (Ev.cond (fun _ => Ev.cond (fun _ => Ev.bind ev1 (Ev.now _)) (fun h => absurd rfl h)) (fun h => absurd rfl h))
def J9 (x1 : Int) (c : ByteArray) (seven : Bool) (q : Nat) (ns ls : List ByteArray) : Prop := ∀ (ws : List (List UInt8)) (o : List UInt8), St q ws o ns ls → Ev (fun k => laws_FnTopOfAll.j9 k x1 (ofL o) (ofL (scr ws)) c seven) true
theorem j9_no (x1 : Int) (c : ByteArray) (q : Nat) (hq : q ≤ 4) (ns ls : List ByteArray) : J9 x1 c false q ns ls := by
 intro ws o h
 apply Ev.succ
 simp only [laws_FnTopOfAll.j9]
 exact Ev.cond (fun h' => absurd h' (by decide)) (fun _ => j10_ev hq h)
theorem j9_yes (m : Nat) (hm : m ≤ 131071) (b c : List UInt8) (q : Nat) (hq : q ≤ 3) (ns' ls' : List ByteArray) (hl : ls'.length = ns'.length) (hn : ns'.length ≤ 3) (hix : slices_Index_string_string.f 20 (nX :: ns') nX = some 0) (hiw : slices_Index_string_string.f 20 (nW :: nX :: ns') nW = some 0) (hbs : slices_BinarySearch_string_string.f 20 (nX :: ns') nW = some (0, false)) (hcon : conB (nW :: nX :: ns') (ofL c :: ofL b :: ls') = true) (hc0 : c ≠ []) (hcl : c.length ≤ 400) (h1 : Ev (fun k => impl_AddCheck.f k (m : Int) (ofL b)) (ofL c, true)) (h2 : Ev (fun k => impl_HasCheck.f k (m : Int) (ofL c)) true) : J9 (m : Int) (ofL c) true q (nX :: ns') (ofL b :: ls') := by
 intro ws o h
 obtain ⟨m2, m3⟩ := dec_no m
 have m4 := itoa_short m (by omega)
 have ed : impl_Decimal.f (m : Int) = some (ofL (Lib.itoa (m : Int))) := Decimal_eq _ (by omega) (by omega)
 have rD := runs_Dg m (by omega) ns' ls' b c hl hn hix hiw hbs hcon hc0 hcl h1 h2
 have eS : scr [checkC m, verifyC m, showL [119]] = ((([99, 104, 101, 99, 107, 32, 119, 32, 120, 32] ++ Lib.itoa (m : Int)) ++ [10, 118, 101, 114, 105, 102, 121, 32, 119, 32]) ++ Lib.itoa (m : Int)) ++ [10, 115, 104, 111, 119, 32, 119, 10] := by
  simp only [scr, showL, checkC, verifyC, jn2, jn3, jn4, List.append_assoc, List.cons_append, List.nil_append, List.append_nil]
 have nD : ∀ x ∈ [checkC m, verifyC m, showL [119]], (10 : UInt8) ∉ x := by
  simp only [List.forall_mem_cons]
  refine ⟨joinW_nl _ ?_, joinW_nl _ ?_, by decide, fun _ h => absurd h (by simp)⟩
  ·simp only [List.forall_mem_cons]
   exact ⟨by decide, by decide, by decide, m3, fun _ h => absurd h (by simp)⟩
  ·simp only [List.forall_mem_cons]
   exact ⟨by decide, by decide, m3, fun _ h => absurd h (by simp)⟩
 have hS := h.app rD nD hcon (show 3 ≤ 4 by decide) (by rw [eS]; simp only [List.length_append, List.length_cons, List.length_nil]; omega) Qk0_
 have fin := j10_ev (show q + 1 ≤ 4 by omega) hS
 obtain ⟨a1, a2, a3, a4, a5, a6⟩ := h
 have eW : o ++ ([111, 107] ++ 10 :: ([121, 101, 115] ++ 10 :: (c ++ [10]))) = o ++ (([111, 107, 10, 121, 101, 115, 10] ++ c) ++ [10]) := by
  simp only [List.append_assoc, List.cons_append, List.nil_append, List.append_nil]
 rw [scr_app, eS, eW] at fin
 apply Ev.succ
 simp only [laws_FnTopOfAll.j9]
 refine Ev.cond (fun _ => ?_) (fun h => absurd trivial h)
 refine Ev.bind (Ev.const ed) ?_
 simp only [litL, ofL_app, ofL_size]
 refine Ev.cond (fun _ => ?_) (fun h => absurd (by omega) h)
 refine Ev.cond (fun _ => ?_) (fun h => absurd Qk0_ h)
 refine Ev.bind (Ev.const ed) ?_
 simp only [litL, ofL_app, ofL_size]
 refine Ev.cond (fun _ => ?_) (fun h => absurd Qk0_ h)
 refine Ev.cond (fun _ => ?_) (fun h => absurd Qk0_ h)
 refine Ev.cond (fun _ => ?_) (fun h => absurd Qk0_ h)
 refine Ev.cond (fun _ => ?_) (fun h => absurd (by omega) h)
 refine Ev.cond (fun _ => ?_) (fun h => absurd Qk0_ h)
 refine Ev.cond (fun _ => ?_) (fun h => absurd Qk0_ h)
 exact fin
theorem u64_m (z : Int) : IntKind.u64.wrap z = z % 18446744073709551616 := by simp [IntKind.wrap, IntKind.bits, IntKind.signed]
theorem place_in (x : Int) (s : Nat) (h : 0 < s) (h2 : s ≤ 1000) : IntKind.u64.wrap (s : Int) ≠ 0 ∧ ∃ m : Nat, m < s ∧ wrap64 (Int.tmod (IntKind.u64.wrap x) (IntKind.u64.wrap (s : Int))) = (m : Int) := by
 have e : IntKind.u64.wrap (s : Int) = (s : Int) := by rw [u64_m]; omega
 rw [e, u64_m]
 have h0 : 0 ≤ x % 18446744073709551616 := Int.emod_nonneg _ (by decide)
 have h1 := Int.tmod_nonneg (s : Int) h0
 have h3 := Int.tmod_lt_of_pos (x % 18446744073709551616) (show (0 : Int) < (s : Int) by omega)
 obtain ⟨m, hm⟩ := Int.eq_ofNat_of_zero_le h1
 refine ⟨by omega, m, by omega, ?_⟩
 rw [hm, w64 (by omega) (by omega)]
theorem j8_yes (x1 x2 : Int) (b : List UInt8) (c : ByteArray) (seven : Bool) (q : Nat) (hq : q ≤ 2) (ns ls : List ByteArray) (z : Nat) (hn : ns.length = z) (hl : ls.length = z) (hz1 : 1 ≤ z) (hz3 : z ≤ 3) (hx : sn ls 0 = ofL b)
 (hix : slices_Index_string_string.f 20 ns nX = some 0) (hbs : slices_BinarySearch_string_string.f 20 ns nZ = some ((z : Int), false)) (hjx : slices_Index_string_string.f 20 (ns ++ [nZ]) nZ = some (z : Int)) (hbz : slices_BinarySearch_string_string.f 20 (ns ++ [nZ]) nZ = some ((z : Int), true))
 (hcon : ∀ d, bitsB d = true → conB (ns ++ [nZ]) (ls ++ [d]) = true) (hb : b.all isBitB = true) (hbl : b.length ≤ 133) (hb0 : b ≠ []) (hJ : J9 x1 c seven (q + 1) (ns ++ [nZ]) (ls ++ [ofL b]))
 (ws : List (List UInt8)) (o : List UInt8) (h : St q ws o ns ls) : Ev (fun k => laws_FnTopOfAll.j8 k x1 x2 (ofL b) (ofL o) (ofL (scr ws)) (ofL (r3 b)) c seven true) true := by
 have h3l := r3_len b
 have hb1 : 1 ≤ b.length := Nat.pos_of_ne_zero (fun h => hb0 (List.eq_nil_of_length_eq_zero h))
 obtain ⟨hne, m, hm, em⟩ := place_in x2 (r3 b).length (by omega) (by omega)
 obtain ⟨m2, m3⟩ := dec_no m
 have m4 := itoa_short m (by omega)
 have ed : impl_Decimal.f (m : Int) = some (ofL (Lib.itoa (m : Int))) := Decimal_eq _ (by omega) (by omega)
 have hbb : bitsB (ofL b) = true := bitsB_allT (by rw [ofL_data]; exact hb) Qb1_
 have rC := runs_Cg ns ls z hn hl hz1 hz3 b hx hix hbs hjx hbz hcon m (by omega) hb hbl hb0 hm
 have eS : scr [repeatL', flipL m, voteL, showL [122]] = ([114, 101, 112, 101, 97, 116, 32, 122, 32, 120, 32, 51, 10, 102, 108, 105, 112, 32, 122, 32] ++ Lib.itoa (m : Int)) ++ [10, 118, 111, 116, 101, 32, 122, 32, 122, 32, 51, 10, 115, 104, 111, 119, 32, 122, 10] := by
  simp only [scr, showL, repeatL', flipL, voteL, jn2, jn3, jn4, List.append_assoc, List.cons_append, List.nil_append, List.append_nil]
 have nC : ∀ x ∈ [repeatL', flipL m, voteL, showL [122]], (10 : UInt8) ∉ x := by
  simp only [List.forall_mem_cons]
  refine ⟨by decide, joinW_nl _ ?_, by decide, by decide, fun _ h => absurd h (by simp)⟩
  simp only [List.forall_mem_cons]
  exact ⟨by decide, by decide, m3, fun _ h => absurd h (by simp)⟩
 have hS := h.app rC nC (hcon _ hbb) (show 4 ≤ 4 by decide) (by rw [eS]; simp only [List.length_append, List.length_cons, List.length_nil]; omega) Qk0_
 have fin := hJ _ _ hS
 obtain ⟨a1, a2, a3, a4, a5, a6⟩ := h
 have eW : o ++ ([111, 107] ++ 10 :: ([111, 107] ++ 10 :: ([111, 107] ++ 10 :: (b ++ [10])))) = o ++ (([111, 107, 10, 111, 107, 10, 111, 107, 10] ++ b) ++ [10]) := by
  simp only [List.append_assoc, List.cons_append, List.nil_append, List.append_nil]
 rw [scr_app, eS, eW] at fin
 apply Ev.succ
 simp only [laws_FnTopOfAll.j8, litL, ofL_app, ofL_size, em]
 refine Ev.cond (fun _ => ?_) (fun h => absurd trivial h)
 refine Ev.cond (fun h => absurd h hne) (fun _ => ?_)
 refine Ev.bind (Ev.const ed) ?_
 simp only [litL, ofL_app, ofL_size]
 refine Ev.cond (fun _ => ?_) (fun h => absurd (by omega) h)
 refine Ev.cond (fun _ => ?_) (fun h => absurd Qk0_ h)
 refine Ev.cond (fun _ => ?_) (fun h => absurd Qk0_ h)
 refine Ev.cond (fun _ => ?_) (fun h => absurd (by omega) h)
 refine Ev.cond (fun _ => ?_) (fun h => absurd Qk0_ h)
 refine Ev.cond (fun _ => ?_) (fun h => absurd Qk0_ h)
 exact fin
theorem j8_no (x1 x2 : Int) (b : List UInt8) (t c : ByteArray) (seven : Bool) (q : Nat) (ns ls : List ByteArray) (hJ : J9 x1 c seven q ns ls) (ws : List (List UInt8)) (o : List UInt8) (h : St q ws o ns ls) : Ev (fun k => laws_FnTopOfAll.j8 k x1 x2 (ofL b) (ofL o) (ofL (scr ws)) t c seven false) true := by
 apply Ev.succ
 simp only [laws_FnTopOfAll.j8]
 exact Ev.cond (fun h' => absurd h' (by decide)) (fun _ => hJ _ _ h)
theorem j5_ev (x1 x2 : Int) (b : List UInt8) (n : Nat) (hb : b.all isBitB = true) (hbl : b.length ≤ 256) (hn0 : 0 < n ↔ b ≠ []) (S Wn : ByteArray)
 (hk : ∀ (t : ByteArray) (six : Bool) (c : ByteArray) (seven : Bool), ((six = true ∧ b.length ≤ 133 ∧ t = ofL (r3 b)) ∨ six = false) → ((seven = true ∧ ∃ (P : Nat) (cl : List UInt8), x1 = (P : Int) ∧ P ≤ 131071 ∧ c = ofL cl ∧ cl ≠ [] ∧ cl.length ≤ 300 ∧ bitsB (ofL cl) = true ∧ Ev (fun k => impl_AddCheck.f k (P : Int) (ofL b)) (ofL cl, true) ∧ Ev (fun k => impl_HasCheck.f k (P : Int) (ofL cl)) true) ∨ seven = false) →
  Ev (fun k => laws_FnTopOfAll.j8 k x1 x2 (ofL b) Wn S t c seven (decide (0 < n) && six)) true) :
 Ev (fun k => laws_FnTopOfAll.j5 k x1 x2 (ofL b) (n : Int) Wn S) true := by
 obtain ⟨⟨t, six⟩, r1, r2, r3'⟩ := rep_both b (by omega) hb
 have h6 : (six = true ∧ b.length ≤ 133 ∧ t = ofL (r3 b)) ∨ six = false := by
  rcases r3' with ⟨h1, h2⟩ | h
  ·exact .inl ⟨(Prod.mk.inj h2).2, h1, (Prod.mk.inj h2).1⟩
  ·exact .inr h
 have tail : ∀ (c : ByteArray) (seven : Bool), Ev (fun k => laws_FnTopOfAll.j8 k x1 x2 (ofL b) Wn S t c seven (decide (0 < n) && six)) true → Ev (fun k => laws_FnTopOfAll.j7 k x1 x2 (ofL b) (n : Int) Wn S t six c seven false) true := by
  intro c seven h
  apply Ev.succ
  simp only [laws_FnTopOfAll.j7]
  refine Ev.cond (fun h' => absurd h' (by decide)) (fun _ => ?_)
  by_cases hn : 0 < n
  ·rw [decide_eq_true hn, Bool.true_and] at h
   exact Ev.cond (fun _ => h) (fun h' => absurd (by omega) h')
  ·rw [decide_eq_false hn, Bool.false_and] at h
   exact Ev.cond (fun h' => absurd h' (by omega)) (fun _ => h)
 apply Ev.succ
 simp only [laws_FnTopOfAll.j5]
 rcases add_both x1 (ofL b) Qb1_ (by rw [ofL_data]; exact hb) with ⟨P, rfl, hp1, hp2, a1, a2, a3⟩ | ⟨a1, a2⟩
 ·generalize hcd : (ofL b ++ chk P (ofL b)).data.toList = cl at *
  have hce : ofL b ++ chk P (ofL b) = ofL cl := by rw [← hcd, ofL_of]
  rw [hce] at a1 a2 a3
  have hdg : 1 ≤ deg P ∧ deg P ≤ 16 := ⟨deg_pos hp1 (Nat.lt_of_le_of_lt hp2 (by decide)), deg16 hp1 hp2⟩
  have hcl : cl.length = b.length + deg P := by rw [← ofL_size, ← hce, ByteArray.size_append, ofL_size, chk_sizeT]
  have hcb : cl.all isBitB = true := by rw [← hcd]; exact chk_bits P _ (by rw [ofL_data]; exact hb)
  have h7 := tail (ofL cl) true (hk t six (ofL cl) true h6 (.inl ⟨rfl, P, cl, rfl, hp2, rfl, fun h => by rw [h] at hcl; exact absurd hcl (by show ¬ 0 = _; omega), by omega, bitsB_allT (by rw [ofL_data]; exact hcb) Qb1_, a1, a3⟩))
  refine Ev.bind r1 (Ev.bind a1 (Ev.bind r2 ?_))
  refine Ev.cond (fun h' => absurd h' (by simp)) (fun _ => ?_)
  rw [show ((t, six).1.toList != (t, six).1.toList) = false from bne_self_eq_false _]
  apply Ev.succ
  simp only [laws_FnTopOfAll.j6]
  refine Ev.cond (fun h' => absurd h' (by decide)) (fun _ => ?_)
  refine Ev.bind a2 ?_
  refine Ev.cond (fun h' => absurd h' (by simp)) (fun _ => ?_)
  refine Ev.cond (fun _ => ?_) (fun h' => absurd rfl h')
  refine Ev.cond (fun _ => ?_) (fun h' => absurd trivial h')
  exact Ev.bind a3 h7
 ·have h7 := tail (⟨#[]⟩ : ByteArray) false (hk t six (⟨#[]⟩ : ByteArray) false h6 (.inr rfl))
  refine Ev.bind r1 (Ev.bind a1 (Ev.bind r2 ?_))
  refine Ev.cond (fun h' => absurd h' (by simp)) (fun _ => ?_)
  rw [show ((t, six).1.toList != (t, six).1.toList) = false from bne_self_eq_false _]
  apply Ev.succ
  simp only [laws_FnTopOfAll.j6]
  refine Ev.cond (fun h' => absurd h' (by decide)) (fun _ => ?_)
  refine Ev.bind a2 ?_
  refine Ev.cond (fun h' => absurd h' (by simp)) (fun _ => ?_)
  refine Ev.cond (fun _ => ?_) (fun h' => absurd rfl h')
  exact Ev.cond (fun h' => absurd h' (by decide)) (fun _ => h7)
theorem two_of {six : Bool} {b : List UInt8} {t : ByteArray} (h : (six = true ∧ b.length ≤ 133 ∧ t = ofL (r3 b)) ∨ six = false) (hs : six = true) : b.length ≤ 133 ∧ t = ofL (r3 b) := h.elim (fun h => h.2) (fun h => absurd (hs.symm.trans h) (by decide))
theorem mid_ev (x1 x2 : Int) (b : List UInt8) (n : Nat) (hb : b.all isBitB = true) (hbl : b.length ≤ 256) (hn0 : 0 < n ↔ b ≠ []) (q : Nat) (hq : q ≤ 2) (ms ks : List ByteArray) (hkl : ks.length = ms.length) (hm2 : ms.length ≤ 1)
 (f1 : slices_Index_string_string.f 20 (nX :: ms) nX = some 0) (f2 : slices_Index_string_string.f 20 (nW :: nX :: ms) nW = some 0) (f3 : slices_BinarySearch_string_string.f 20 (nX :: ms) nW = some (0, false))
 (g1 : slices_Index_string_string.f 20 (nX :: (ms ++ [nZ])) nX = some 0) (g2 : slices_Index_string_string.f 20 (nW :: nX :: (ms ++ [nZ])) nW = some 0) (g3 : slices_BinarySearch_string_string.f 20 (nX :: (ms ++ [nZ])) nW = some (0, false))
 (g4 : slices_BinarySearch_string_string.f 20 (nX :: ms) nZ = some ((((nX :: ms).length : Nat) : Int), false)) (g5 : slices_Index_string_string.f 20 (nX :: (ms ++ [nZ])) nZ = some (((nX :: ms).length : Nat) : Int)) (g6 : slices_BinarySearch_string_string.f 20 (nX :: (ms ++ [nZ])) nZ = some ((((nX :: ms).length : Nat) : Int), true))
 (c1 : ∀ d, bitsB d = true → conB (nX :: (ms ++ [nZ])) (ofL b :: (ks ++ [d])) = true) (c2 : ∀ d, bitsB d = true → conB (nW :: nX :: ms) (d :: ofL b :: ks) = true) (c3 : ∀ d, bitsB d = true → conB (nW :: nX :: (ms ++ [nZ])) (d :: ofL b :: (ks ++ [ofL b])) = true)
 (ws : List (List UInt8)) (o : List UInt8) (h : St q ws o (nX :: ms) (ofL b :: ks)) : Ev (fun k => laws_FnTopOfAll.j5 k x1 x2 (ofL b) (n : Int) (ofL o) (ofL (scr ws))) true := by
 refine j5_ev x1 x2 b n hb hbl hn0 _ _ (fun t six c seven h6 h7 => ?_)
 have J1 : J9 x1 c seven q (nX :: ms) (ofL b :: ks) := by
  rcases h7 with ⟨rfl, P, cl, rfl, hp, rfl, p1, p2, p3, p4, p5⟩ | rfl
  ·exact j9_yes P hp b cl q (by omega) ms ks hkl (by omega) f1 f2 f3 (c2 _ p3) p1 (by omega) p4 p5
  ·exact j9_no x1 c q (by omega) _ _
 by_cases hn : 0 < n
 ·cases six with
  | false =>
   rw [Bool.and_false]
   exact j8_no x1 x2 b t c seven q _ _ J1 ws o h
  | true =>
   rw [decide_eq_true hn, Bool.true_and]
   obtain ⟨hs1, rfl⟩ := two_of h6 rfl
   have J2 : J9 x1 c seven (q + 1) (nX :: (ms ++ [nZ])) (ofL b :: (ks ++ [ofL b])) := by
    rcases h7 with ⟨rfl, P, cl, rfl, hp, rfl, p1, p2, p3, p4, p5⟩ | rfl
    ·exact j9_yes P hp b cl (q + 1) (by omega) (ms ++ [nZ]) (ks ++ [ofL b]) (by rw [List.length_append, List.length_append, hkl]; rfl) (by rw [List.length_append]; show ms.length + 1 ≤ 3; omega) g1 g2 g3 (c3 _ p3) p1 (by omega) p4 p5
    ·exact j9_no x1 c (q + 1) (by omega) _ _
   exact j8_yes x1 x2 b c seven q hq (nX :: ms) (ofL b :: ks) (nX :: ms).length rfl (by rw [List.length_cons, List.length_cons, hkl]) (by rw [List.length_cons]; omega) (by rw [List.length_cons]; omega) rfl f1 g4 g5 g6 c1 hb hs1 (hn0.1 hn) J2 ws o h
 ·rw [decide_eq_false hn, Bool.false_and]
  exact j8_no x1 x2 b t c seven q _ _ J1 ws o h
theorem conW2y {d a b : ByteArray} (hd : bitsB d = true) (ha : bitsB a = true) (hb : bitsB b = true) : conB [nW, nX, nY] [d, a, b] = true := by
 refine (conB_iff _ _).2 ⟨(show 3 ≤ 6 by decide), rfl, fun n hn => (conI_iff _ _ _).2 ?_⟩
 match n, hn with
 | 0, _ => exact ⟨names4.1, .inl rfl, hd⟩
 | 1, _ => exact ⟨names4.2.1, .inr names4.2.2.2.2.1, ha⟩
 | 2, _ => exact ⟨names4.2.2.1, .inr names4.2.2.2.2.2.1, hb⟩
theorem sx0 (b : List UInt8) (hbb : bitsB (ofL b) = true) (x1 x2 : Int) (n : Nat) (hb : b.all isBitB = true) (hbl : b.length ≤ 256) (hn0 : 0 < n ↔ b ≠ []) (ws : List (List UInt8)) (o : List UInt8) (h : St 1 ws o [nX] [ofL b]) : Ev (fun k => laws_FnTopOfAll.j5 k x1 x2 (ofL b) (n : Int) (ofL o) (ofL (scr ws))) true :=
 mid_ev x1 x2 b n hb hbl hn0 1 (by decide) [] [] rfl (by decide) Qr0_ Qr0_ Qr0_ Qr0_ Qr0_ Qr0_ Qr0_ Qr0_ Qr0_ (fun d hd => con2z hbb hd) (fun d hd => conW1 hd hbb) (fun d hd => conW2z hd hbb hbb) ws o h
theorem sx1 (b : List UInt8) (hbb : bitsB (ofL b) = true) (x1 x2 : Int) (n : Nat) (hb : b.all isBitB = true) (hbl : b.length ≤ 256) (hn0 : 0 < n ↔ b ≠ []) (ws : List (List UInt8)) (o : List UInt8) (h : St 2 ws o [nX, nY] [ofL b, ofL b]) : Ev (fun k => laws_FnTopOfAll.j5 k x1 x2 (ofL b) (n : Int) (ofL o) (ofL (scr ws))) true :=
 mid_ev x1 x2 b n hb hbl hn0 2 (by decide) [nY] [ofL b] rfl (by decide) Qr0_ Qr0_ Qr0_ Qr0_ Qr0_ Qr0_ Qr0_ Qr0_ Qr0_ (fun d hd => con3 hbb hbb hd) (fun d hd => conW2y hd hbb hbb) (fun d hd => conW3 hd hbb hbb hbb) ws o h
theorem st_A (ds : List Int) (hd : d4 ds) (hl : ds.length ≤ 64) : ∃ (ws : List (List UInt8)) (o : List UInt8), St 1 ws o [nX] [ofL (bL ds)] ∧ scr ws = ([98, 108, 111, 99, 107, 115, 32, 120, 32, 50, 32, 52, 32, 45, 49, 32] ++ listL ds) ++ [10, 115, 104, 111, 119, 32, 120, 10, 100, 97, 116, 97, 32, 120, 32, 50, 32, 52, 32, 45, 49, 10] ∧ o = (((([45, 49] ++ [10]) ++ noneL (bL ds)) ++ [10]) ++ listL ds) ++ [32, 110, 111, 110, 101, 10] := by
 have hbl := bL_len hd
 have hll := listL_len hd
 have hnl := noneL_len (bL ds)
 have hbb : bitsB (ofL (bL ds)) = true := bitsB_allT (by rw [ofL_data]; exact bL_bits hd) Qb1_
 have eS : scr [blocksL ds, showL [120], dataL] = ([98, 108, 111, 99, 107, 115, 32, 120, 32, 50, 32, 52, 32, 45, 49, 32] ++ listL ds) ++ [10, 115, 104, 111, 119, 32, 120, 10, 100, 97, 116, 97, 32, 120, 32, 50, 32, 52, 32, 45, 49, 10] := by
  simp only [scr, blocksL, showL, dataL, jn2, jn3, jn4, jn5, jn6, List.append_assoc, List.cons_append, List.nil_append, List.append_nil]
 refine ⟨[blocksL ds, showL [120], dataL], _, ⟨runs_A ds hd hl, ?_, con1 hbb, show 3 ≤ 4 by decide, ?_, ?_⟩, eS, ?_⟩
 ·simp only [List.forall_mem_cons]
  refine ⟨joinW_nl _ ?_, by decide, by decide, fun _ h => absurd h (by simp)⟩
  simp only [List.forall_mem_cons]
  exact ⟨by decide, by decide, by decide, by decide, by decide, (listL_no hd).2, fun _ h => absurd h (by simp)⟩
 ·rw [eS]; simp only [List.length_append, List.length_cons, List.length_nil]; omega
 ·simp only [List.length_append, List.length_cons, List.length_nil]; omega
 ·simp only [List.append_assoc, List.cons_append, List.nil_append, List.append_nil]
theorem j4_ev (x1 x2 : Int) (n : Nat) (h1 : 1 ≤ n) (h20 : n ≤ 20) (b o : List UInt8) (hb : b.all isBitB = true) (ho : o.all isBitB = true) (hbl : b.length ≤ 256) (hol : o.length ≤ 256) (hb0 : b ≠ []) (ho0 : o ≠ []) (e1 : Ev (fun k => impl_BlockInterleave.f k (n : Int) 4 (ofL b)) (ofL o, true)) (e2 : Ev (fun k => impl_BlockDeinterleave.f k (n : Int) 4 (ofL o)) (ofL b, true))
 (ws : List (List UInt8)) (ot : List UInt8) (h : St 1 ws ot [nX] [ofL b]) : Ev (fun k => laws_FnTopOfAll.j4 k x1 x2 (ofL b) (n : Int) (ofL ot) (ofL (scr ws)) (ofL o) false) true := by
 obtain ⟨m2, m3⟩ := dec_no n
 have m4 := itoa_short n (by omega)
 have ed : impl_Decimal.f (n : Int) = some (ofL (Lib.itoa (n : Int))) := Decimal_eq _ (by omega) (by omega)
 have hbb : bitsB (ofL b) = true := bitsB_allT (by rw [ofL_data]; exact hb) Qb1_
 have rB := runs_B n (by omega) b o hb ho (by omega) (by omega) hb0 ho0 e1 e2
 have eS : scr [layL n, showL [121], unlayL n, showL [121]] = ((([108, 97, 121, 32, 121, 32, 120, 32] ++ Lib.itoa (n : Int)) ++ [32, 52, 10, 115, 104, 111, 119, 32, 121, 10, 117, 110, 108, 97, 121, 32, 121, 32, 121, 32]) ++ Lib.itoa (n : Int)) ++ [32, 52, 10, 115, 104, 111, 119, 32, 121, 10] := by
  simp only [scr, layL, unlayL, showL, jn2, jn3, jn4, jn5, jn6, List.append_assoc, List.cons_append, List.nil_append, List.append_nil]
 have nB : ∀ x ∈ [layL n, showL [121], unlayL n, showL [121]], (10 : UInt8) ∉ x := by
  simp only [List.forall_mem_cons]
  refine ⟨joinW_nl _ ?_, by decide, joinW_nl _ ?_, by decide, fun _ h => absurd h (by simp)⟩
  ·simp only [List.forall_mem_cons]
   exact ⟨by decide, by decide, by decide, m3, by decide, fun _ h => absurd h (by simp)⟩
  ·simp only [List.forall_mem_cons]
   exact ⟨by decide, by decide, by decide, m3, by decide, fun _ h => absurd h (by simp)⟩
 have hS := h.app rB nB (con2 hbb hbb) (show 4 ≤ 4 by decide) (by rw [eS]; simp only [List.length_append, List.length_cons, List.length_nil]; omega) Qk0_
 have fin := sx1 b hbb x1 x2 n hb hbl ⟨fun _ => hb0, fun _ => by omega⟩ _ _ hS
 obtain ⟨a1, a2, a3, a4, a5, a6⟩ := h
 have eW : ot ++ ([111, 107] ++ 10 :: (o ++ 10 :: ([111, 107] ++ 10 :: (b ++ [10])))) = ot ++ (((([111, 107, 10] ++ o) ++ [10, 111, 107, 10]) ++ b) ++ [10]) := by
  simp only [List.append_assoc, List.cons_append, List.nil_append, List.append_nil]
 rw [scr_app, eS, eW] at fin
 apply Ev.succ
 simp only [laws_FnTopOfAll.j4]
 refine Ev.cond (fun h => absurd h (by decide)) (fun _ => ?_)
 refine Ev.bind (Ev.const ed) ?_
 simp only [litL, ofL_app, ofL_size]
 refine Ev.cond (fun _ => ?_) (fun h => absurd (by omega) h)
 refine Ev.cond (fun _ => ?_) (fun h => absurd Qk0_ h)
 refine Ev.bind (Ev.const ed) ?_
 simp only [litL, ofL_app, ofL_size]
 refine Ev.cond (fun _ => ?_) (fun h => absurd Qk0_ h)
 refine Ev.cond (fun _ => ?_) (fun h => absurd Qk0_ h)
 refine Ev.cond (fun _ => ?_) (fun h => absurd Qk0_ h)
 refine Ev.cond (fun _ => ?_) (fun h => absurd (by omega) h)
 refine Ev.cond (fun _ => ?_) (fun h => absurd Qk0_ h)
 refine Ev.cond (fun _ => ?_) (fun h => absurd Qk0_ h)
 refine Ev.cond (fun _ => ?_) (fun h => absurd Qk0_ h)
 refine Ev.cond (fun _ => ?_) (fun h => absurd Qk0_ h)
 exact fin
theorem j2_ev (x1 x2 : Int) (ds : List Int) (hd : d4 ds) (hl : ds.length ≤ 64) : Ev (fun k => laws_FnTopOfAll.j2 k x1 x2 (ofL (listL ds)) (ofL (bL ds)) (-1) (ds.length : Int) (ofL (noneL (bL ds)))) true := by
 have hbl := bL_len hd
 have hbb := bL_bits hd
 have hll := listL_len hd
 have hnl := noneL_len (bL ds)
 have bbB : bitsB (ofL (bL ds)) = true := bitsB_allT (by rw [ofL_data]; exact hbb) Qb1_
 have hb0 : 0 < ds.length ↔ bL ds ≠ [] := ⟨fun h e => by rw [e] at hbl; exact absurd hbl (by show ¬ 0 = _; omega), fun h => by
  rcases Nat.eq_zero_or_pos ds.length with h0 | h0
  ·exact absurd (List.eq_nil_of_length_eq_zero (by omega)) h
  ·exact h0⟩
 obtain ⟨ws, o, hS, eS, eW⟩ := st_A ds hd hl
 have ed : impl_Decimal.f (-1) = some (ofL [45, 49]) := by rw [Decimal_eq _ (by omega) (by omega)]; exact congrArg some Qr0_
 have done_ := sx0 (bL ds) bbB x1 x2 ds.length hbb (by omega) hb0 ws o hS
 apply Ev.succ
 simp only [laws_FnTopOfAll.j2]
 refine Ev.bind (Ev.const ed) ?_
 simp only [litL, ofL_app, ofL_size]
 refine Ev.cond (fun _ => ?_) (fun h => absurd (by decide) h)
 refine Ev.cond (fun _ => ?_) (fun h => absurd Qk0_ h)
 refine Ev.cond (fun _ => ?_) (fun h => absurd Qk0_ h)
 refine Ev.cond (fun _ => ?_) (fun h => absurd Qk0_ h)
 refine Ev.cond (fun _ => ?_) (fun h => absurd Qk0_ h)
 refine Ev.cond (fun _ => ?_) (fun h => absurd (by omega) h)
 refine Ev.cond (fun _ => ?_) (fun h => absurd Qk0_ h)
 rw [← eS, ← eW]
 refine Ev.cond (fun hp => ?_) (fun _ => done_)
 have h1 : 1 ≤ ds.length := by omega
 have hne := hb0.1 (by omega)
 obtain ⟨r, q1, q2⟩ := BIx_ev (ds.length : Int) 4 (ofL (bL ds)) Qb1_
 refine Ev.bind q2 (Ev.bind q1 (Ev.cond (fun h' => absurd h' (by simp)) (fun _ => ?_)))
 rw [show (r.1.toList != r.1.toList) = false from bne_self_eq_false _]
 apply Ev.succ
 simp only [laws_FnTopOfAll.j3]
 refine Ev.cond (fun h' => absurd h' (by decide)) (fun _ => ?_)
 by_cases h20 : ds.length ≤ 20
 ·obtain ⟨ob, o1, o2, o3, o4⟩ := lay_back ds.length 4 (4 * ds.length) (by omega) (by omega) h1 h20 (by decide) (by decide) (ofL (bL ds)) Qb1_ (by rw [ofL_data]; exact hbb)
  obtain ⟨ol, rfl⟩ : ∃ ol, ob = ofL ol := ⟨ob.data.toList, (ofL_of ob).symm⟩
  rw [ofL_size] at o2
  rw [ofL_data] at o3
  obtain rfl := Ev.det q2 o1
  have ol0 : ol ≠ [] := fun h => by rw [h] at o2; exact absurd o2 (by show ¬ 0 = _; omega)
  refine Ev.cond (fun _ => ?_) (fun h' => absurd rfl h')
  refine Ev.bind o4 (Ev.cond (fun _ => ?_) (fun h' => absurd rfl h'))
  rw [show ((ofL (bL ds)).toList != (ofL (bL ds)).toList) = false from bne_self_eq_false _]
  exact j4_ev x1 x2 ds.length h1 h20 (bL ds) ol hbb o3 (by omega) (by omega) hne ol0 o1 o4 ws o hS
 ·have hbi := BI_ev (ds.length : Int) 4 (ofL (bL ds)) Qb1_
  have hf : fitsB (ds.length : Int) 4 (ofL (bL ds)) = false := by
   unfold fitsB
   rw [decide_eq_false (show ¬ (1 ≤ (ds.length : Int) ∧ (ds.length : Int) ≤ 20) by omega)]
   rfl
  rw [hf, if_neg (by decide)] at hbi
  obtain rfl := Ev.det q2 hbi
  exact Ev.cond (fun h' => absurd h' (by decide)) (fun _ => done_)
theorem FnTopOfAll : laws_FnTopOfAll.Pure := by
 intro data x1 x2 _ h8 _ _ _
 have hlen : data.length ≤ 17592186044416 := by omega
 refine Ev.rounds ?_
 obtain ⟨b2, t, s, e1, e2, hb2⟩ := list_both data hlen
 obtain ⟨r, e3, e4, hr⟩ := enc_both data hlen
 unfold laws_FnTopOfAll.f
 refine Ev.bind mk24 (Ev.bind e1 (Ev.bind e3 (Ev.bind e4 ?_)))
 refine Ev.cond (fun _ => ?_) (fun h' => absurd rfl h')
 refine Ev.cond (fun h' => absurd h' (by simp)) (fun _ => ?_)
 refine Ev.cond (fun _ => ?_) (fun h' => absurd rfl h')
 rw [show (r.2.1 != r.2.1) = false from bne_self_eq_false _]
 apply Ev.succ
 simp only [laws_FnTopOfAll.j0]
 refine Ev.cond (fun h' => absurd h' (by decide)) (fun _ => ?_)
 refine Ev.bind e2 ?_
 refine Ev.cond (fun h' => absurd h' (by simp)) (fun _ => ?_)
 cases b2 with
 | false =>
  refine Ev.cond (fun h' => absurd h' (by decide)) (fun _ => ?_)
  apply Ev.succ
  simp only [laws_FnTopOfAll.j1]
  exact Ev.cond (fun _ => Ev.now _) (fun h' => absurd trivial h')
 | true =>
  refine Ev.cond (fun _ => ?_) (fun h' => absurd rfl h')
  have hl := hb2 rfl
  rcases hr with ⟨hd, rfl⟩ | hf
  ·obtain ⟨rfl, _⟩ := Prod.mk.inj (Ev.det e1 (lt24 data hd hl))
   have hbl := bL_len hd
   have hn : wrap64 (((ofL (bL data)).size : Int) / 4) = ((data.length : Nat) : Int) := by
    rw [ofL_size, hbl, w64 (by omega) (by omega)]; omega
   have fin := j2_ev x1 x2 data hd hl
   apply Ev.succ
   simp only [laws_FnTopOfAll.j1]
   refine Ev.cond (fun h' => absurd h' (by simp)) (fun _ => ?_)
   rw [hn]
   refine Ev.cond (fun h => ?_) (fun h => ?_)
   ·have h2 : noneL (bL data) = [110, 111, 110, 101] := by unfold noneL; rw [ofL_list] at h; rw [if_pos h]
    rw [h2] at fin
    exact fin
   ·have h2 : noneL (bL data) = bL data := by unfold noneL; rw [ofL_list] at h; rw [if_neg h]
    rw [h2] at fin
    exact fin
  ·rw [hf]
   apply Ev.succ
   simp only [laws_FnTopOfAll.j1]
   exact Ev.cond (fun _ => Ev.now _) (fun h' => absurd rfl h')
end Go.Proofs.YtbjmbfjbjkhhdaaGreatDoor.Pure
