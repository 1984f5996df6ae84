/- For all consoles the program's ValidConsole answers what the reference's does. -/
import Derived.Test.YtohdepanfnaddaaDoorQFnExactValidConsolex3
import Derived.Test.YtohdepanfnaddaaDoorBase
namespace Go.Proofs.YtohdepanfnaddaaDoor.Pure
open Go.RowKit Go.Proofs.YtohdepanfnaddaaDoor.QFnExactValidConsole Go.Proofs.YtohdepanfnaddaaDoor.Base Go.Proofs.YtohdepanfnaddaaDoorW.PrintWords Go.Proofs.YtohdepanfnaddaaDoorW.PrintLast Go.Proofs.YtohdepanfnaddaaDoorW.PrintMore
set_option linter.unusedVariables false
set_option linter.unusedSimpArgs false

/-! strL -/
/-- A text of a list, by its place. -/
def sn (xs : List ByteArray) (n : Nat) : ByteArray := xs.getD n ByteArray.empty
theorem sr_nat (xs : List ByteArray) (n : Nat) : rdOf ByteArray.empty xs (n : Int) = sn xs n := by unfold rdOf sn; rw [Int.toNat_natCast]
theorem sn_get {xs : List ByteArray} {n : Nat} (h : n < xs.length) : sn xs n = xs[n] := by
  unfold sn
  rw [List.getD_eq_getElem?_getD, List.getElem?_eq_getElem h]; rfl
theorem sn_mem {xs : List ByteArray} {n : Nat} (h : n < xs.length) : sn xs n ∈ xs := by rw [sn_get h]; exact List.getElem_mem h
theorem drop_sn {xs : List ByteArray} {n : Nat} (h : n < xs.length) : xs.drop n = sn xs n :: xs.drop (n + 1) := by
  rw [sn_get h, List.drop_eq_getElem_cons h]
theorem take_sn {xs : List ByteArray} {n : Nat} (h : n < xs.length) : xs.take (n + 1) = xs.take n ++ [sn xs n] := by
  rw [sn_get h, List.take_succ_eq_append_getElem h]
/-- The sizes of texts together. -/
def totS : List ByteArray → Nat
  | [] => 0
  | x :: r => x.size + totS r
theorem totS_mem {xs : List ByteArray} {x : ByteArray} (h : x ∈ xs) : x.size ≤ totS xs := by
  induction xs with
  | nil => exact absurd h (by simp)
  | cons y xs ih =>
    unfold totS
    rcases List.mem_cons.1 h with rfl | h
    · omega
    · have := ih h; omega
theorem sn_size (xs : List ByteArray) (n : Nat) : (sn xs n).size ≤ totS xs := by
  by_cases h : n < xs.length
  · exact totS_mem (sn_mem h)
  · have e : sn xs n = ByteArray.empty := by
      unfold sn
      rw [List.getD_eq_getElem?_getD, List.getElem?_eq_none (by omega)]; rfl
    rw [e]; exact Nat.zero_le _
theorem bytes_ext {a b : ByteArray} (h : a.toList = b.toList) : a = b := by
  rw [Lib.toList_data, Lib.toList_data] at h
  exact ByteArray.ext (Array.ext' h)

/-! nameB -/
/-- A small letter. -/
def isLowB (b : UInt8) : Bool := decide (97 ≤ b.toNat ∧ b.toNat ≤ 122)
/-- A name. -/
def nameB (s : ByteArray) : Bool := s.data.toList.all isLowB && decide (1 ≤ s.size ∧ s.size ≤ 10)
theorem nameEnd (s : ByteArray) : (if (s.size : Int) ≥ 1 then (some (decide ((s.size : Int) ≤ 10))) else (some false)) = some (decide (1 ≤ s.size ∧ s.size ≤ 10)) := by
  by_cases h : 1 ≤ s.size
  · rw [if_pos (by omega)]
    congr 1
    exact decide_eq_decide.2 ⟨fun h2 => ⟨h, by omega⟩, fun h2 => by omega⟩
  · rw [if_neg (by omega), decide_eq_false (fun h2 => h h2.1)]
theorem isLow_not {b : UInt8} {z : Int} (e : z = (b.toNat : Int)) (h : z < 97 ∨ z > 122) : isLowB b = false := by
  unfold isLowB
  exact decide_eq_false (by omega)
theorem isLow_yes {b : UInt8} {z : Int} (e : z = (b.toNat : Int)) (h : ¬ z < 97) (h2 : ¬ z > 122) : isLowB b = true := by
  unfold isLowB
  exact decide_eq_true (by omega)

/-! conB -/
/-- What a valid console has at a place. -/
def conI (ns ls : List ByteArray) (n : Nat) : Bool := nameB (sn ns n) && ((decide (n = 0) || Op.bytesLess (sn ns (n - 1)).toList (sn ns n).toList) && bitsB (sn ls n))
def conR (ns ls : List ByteArray) (n d : Nat) : Bool := (List.range' n d).all (conI ns ls)
theorem conR_succ (ns ls : List ByteArray) (n d : Nat) : conR ns ls n (d + 1) = (conI ns ls n && conR ns ls (n + 1) d) := rfl
/-- A valid console. -/
def conB (ns ls : List ByteArray) : Bool := decide (ns.length ≤ 6 ∧ ls.length = ns.length) && conR ns ls 0 ns.length

/-! IsNameS -/
theorem IsNameS_l0 (s : ByteArray) (hn : s.size ≤ 1099511627776) : ∀ d n, n + d = s.size → Ev (fun k => spec_IsName.l0 k s (n : Int)) ((s.data.toList.drop n).all isLowB && decide (1 ≤ s.size ∧ s.size ≤ 10)) := by
  intro d
  induction d with
  | zero =>
    intro n h
    have c1 : ¬ (n : Int) < (s.size : Int) := by omega
    rw [List.drop_eq_nil_of_le (by rw [size_data]; omega)]
    apply Ev.succ
    simp only [spec_IsName.l0, nameEnd]
    exact Ev.cond (fun h' => absurd h' c1) (fun _ => Ev.const (by simp))
  | succ d ih =>
    intro n h
    have hl : n < s.size := by omega
    have c1 : (n : Int) < (s.size : Int) := by omega
    have c2 : (0 : Int) ≤ (n : Int) := by omega
    have h3 := ih (n + 1) (by omega)
    have hb := bt_nat s n hl
    rw [drop_data hl, List.all_cons]
    apply Ev.succ
    simp only [spec_IsName.l0, w64_succ (show n < 9223372036854775807 by omega)]
    refine Ev.cond (fun _ => ?_) (fun h' => absurd c1 h')
    refine Ev.cond (fun _ => ?_) (fun h' => absurd c2 h')
    refine Ev.cond (fun h1 => ?_) (fun h1 => ?_)
    · rw [isLow_not hb (.inl h1)]; exact Ev.now _
    refine Ev.cond (fun h2 => ?_) (fun h2 => ?_)
    · rw [isLow_not hb (.inr h2)]; exact Ev.now _
    rw [isLow_yes hb h1 h2, Bool.true_and]
    exact h3
theorem IsNameS_ev (s : ByteArray) (hn : s.size ≤ 1099511627776) : Ev (fun k => spec_IsName.f k s) (nameB s) := IsNameS_l0 s hn s.size 0 (by omega)

/-! l01Bits -/
theorem l01Bits_l0 (s : ByteArray) (hn : s.size ≤ 1099511627776) : ∀ d n, n + d = s.size → Ev (fun k => spec_l01Bits.l0 k s (n : Int)) ((s.data.toList.drop n).all isBitB && decide (s.size ≤ 400)) := by
  intro d
  induction d with
  | zero =>
    intro n h
    apply Ev.succ
    have h1 : ¬ ((n : Int) < (s.size : Int)) := by omega
    have h2 : s.data.toList.drop n = [] := List.drop_eq_nil_of_le (by rw [size_data]; omega)
    have h3 : ((s.size : Int) ≤ 400) = (s.size ≤ 400) := propext ⟨fun h => by omega, fun h => by omega⟩
    simp only [spec_l01Bits.l0, h1, if_false, h2, h3]
    exact Ev.now _
  | succ d ih =>
    intro n h
    apply Ev.succ
    have hl : n < s.size := by omega
    have h1 : (n : Int) < (s.size : Int) := by omega
    have h2 : (0 : Int) ≤ (n : Int) := by omega
    have h3 := ih (n + 1) (by omega)
    rw [drop_data hl, List.all_cons]
    have hb := bt_nat s n hl
    have hi := isBit_iff (s[n])
    rw [← hb] at hi
    simp only [spec_l01Bits.l0, h1, h2, if_true, w64_succ (show n < 9223372036854775807 by omega)]
    by_cases c1 : bt s (n : Int) = 48
    · rw [hi.2 (.inl c1), Bool.true_and]
      simp only [c1, if_true]; exact h3
    · by_cases c2 : bt s (n : Int) = 49
      · rw [hi.2 (.inr c2), Bool.true_and]
        simp only [c2, if_true, Int.reduceEq, if_false]; exact h3
      · have hf : isBitB (s[n]) = false := by
          rw [Bool.eq_false_iff]; intro hc
          rcases hi.1 hc with hc | hc
          · exact c1 hc
          · exact c2 hc
        simp only [hf, Bool.false_and, c1, c2, if_false]
        exact Ev.now _
theorem l01Bits_ev (s : ByteArray) (hn : s.size ≤ 1099511627776) : Ev (fun k => spec_l01Bits.f k s) (bitsB s) := by
  have h := l01Bits_l0 s hn s.size 0 (by omega)
  exact h

/-! l11Is -/
theorem l11Is_l0 (ns ls : List ByteArray) (hl : ls.length = ns.length) (h6 : ns.length ≤ 6) (hs : totS ns ≤ 1099511627776) (ht : totS ls ≤ 1099511627776) : ∀ d n, n + d = ns.length → Ev (fun k => spec_l11Is.l0 k ns ls (n : Int)) (conR ns ls n d) := by
  intro d
  induction d with
  | zero =>
    intro n h
    have c1 : ¬ (n : Int) < (ns.length : Int) := by omega
    apply Ev.succ
    simp only [spec_l11Is.l0]
    exact Ev.cond (fun h' => absurd h' c1) (fun _ => Ev.now _)
  | succ d ih =>
    intro n h
    have hn : n < ns.length := by omega
    have c1 : (n : Int) < (ns.length : Int) := by omega
    have c2 : (0 : Int) ≤ (n : Int) := by omega
    have c3 : (n : Int) < (ls.length : Int) := by omega
    have h3 := ih (n + 1) (by omega)
    have z1 := Nat.le_trans (sn_size ns n) hs
    have z2 := Nat.le_trans (sn_size ls n) ht
    have tail : Ev (fun k => if (n : Int) < (ls.length : Int) then ((spec_l01Bits.f k (sn ls n)).bind fun t2 => (if t2 = true then (spec_l11Is.l0 k ns ls ((n + 1 : Nat) : Int)) else (some false))) else (none)) (bitsB (sn ls n) && conR ns ls (n + 1) d) := by
      refine Ev.cond (fun _ => ?_) (fun h' => absurd c3 h')
      refine Ev.bind (l01Bits_ev _ z2) ?_
      rcases bitsB (sn ls n) with _ | _
      · exact Ev.cond (fun h' => absurd h' (by decide)) (fun _ => Ev.now _)
      · exact Ev.cond (fun _ => h3) (fun h' => absurd rfl h')
    rw [conR_succ]
    unfold conI
    apply Ev.succ
    simp only [spec_l11Is.l0, sr_nat, w64_succ (show n < 9223372036854775807 by omega)]
    refine Ev.cond (fun _ => ?_) (fun h' => absurd c1 h')
    refine Ev.cond (fun _ => ?_) (fun h' => absurd c2 h')
    refine Ev.bind (IsNameS_ev _ z1) ?_
    rcases nameB (sn ns n) with _ | _
    · exact Ev.cond (fun h' => absurd h' (by decide)) (fun _ => Ev.now _)
    refine Ev.cond (fun _ => ?_) (fun h' => absurd rfl h')
    rw [Bool.true_and]
    rcases Nat.eq_zero_or_pos n with h0 | h0
    · have c4 : ¬ (n : Int) > 0 := by omega
      rw [decide_eq_true h0, Bool.true_or, Bool.true_and]
      exact Ev.cond (fun h' => absurd h' c4) (fun _ => tail)
    · have c4 : (n : Int) > 0 := by omega
      have c5 : (0 : Int) ≤ ((n - 1 : Nat) : Int) := by omega
      have c6 : ((n - 1 : Nat) : Int) < (ns.length : Int) := by omega
      have e : wrap64 ((n : Int) - 1) = ((n - 1 : Nat) : Int) := by rw [w64 (by omega) (by omega)]; omega
      rw [decide_eq_false (show ¬ n = 0 by omega), Bool.false_or]
      simp only [e, sr_nat]
      refine Ev.cond (fun _ => ?_) (fun h' => absurd c4 h')
      refine Ev.cond (fun _ => ?_) (fun h' => absurd c5 h')
      refine Ev.cond (fun _ => ?_) (fun h' => absurd c6 h')
      rcases Op.bytesLess (sn ns (n - 1)).toList (sn ns n).toList with _ | _
      · exact Ev.cond (fun h' => absurd h' (by decide)) (fun _ => Ev.now _)
      · rw [Bool.true_and]
        exact Ev.cond (fun _ => tail) (fun h' => absurd rfl h')
theorem ValidConsoleS_ev (ns ls : List ByteArray) (hn : ns.length ≤ 1099511627776) (hs : totS ns ≤ 1099511627776) (ht : totS ls ≤ 1099511627776) : Ev (fun k => spec_ValidConsole.f k ns ls) (conB ns ls) := by
  unfold spec_ValidConsole.f conB
  by_cases h6 : ns.length ≤ 6
  · have c1 : ¬ (ns.length : Int) > 6 := by omega
    refine Ev.cond (fun h' => absurd h' c1) (fun _ => ?_)
    by_cases hl : ls.length = ns.length
    · have c2 : (ls.length : Int) = (ns.length : Int) := by omega
      rw [decide_eq_true ⟨h6, hl⟩, Bool.true_and]
      exact Ev.cond (fun _ => l11Is_l0 ns ls hl h6 hs ht ns.length 0 (by omega)) (fun h' => absurd c2 h')
    · have c2 : ¬ (ls.length : Int) = (ns.length : Int) := by omega
      rw [decide_eq_false (fun h => hl h.2), Bool.false_and]
      exact Ev.cond (fun h' => absurd h' c2) (fun _ => Ev.now _)
  · have c1 : (ns.length : Int) > 6 := by omega
    rw [decide_eq_false (fun h => h6 h.1), Bool.false_and]
    exact Ev.cond (fun _ => Ev.now _) (fun h' => absurd c1 h')

/-! IsNameI -/
theorem IsNameI_l0 (s : ByteArray) (hn : s.size ≤ 1099511627776) : ∀ d n, n + d = s.size → Ev (fun k => impl_IsName.l0 k s (s.size : Int) (n : Int)) ((s.data.toList.drop n).all isLowB && decide (1 ≤ s.size ∧ s.size ≤ 10)) := by
  intro d
  induction d with
  | zero =>
    intro n h
    have c1 : ¬ (n : Int) < (s.size : Int) := by omega
    rw [List.drop_eq_nil_of_le (by rw [size_data]; omega)]
    apply Ev.succ
    simp only [impl_IsName.l0, nameEnd]
    exact Ev.cond (fun h' => absurd h' c1) (fun _ => Ev.const (by simp))
  | succ d ih =>
    intro n h
    have hl : n < s.size := by omega
    have c1 : (n : Int) < (s.size : Int) := by omega
    have c2 : (0 : Int) ≤ (n : Int) := by omega
    have h3 := ih (n + 1) (by omega)
    have hb := bt_nat s n hl
    rw [drop_data hl, List.all_cons]
    apply Ev.succ
    simp only [impl_IsName.l0, w64_succ (show n < 9223372036854775807 by omega)]
    refine Ev.cond (fun _ => ?_) (fun h' => absurd c1 h')
    refine Ev.cond (fun _ => ?_) (fun h' => absurd c2 h')
    refine Ev.cond (fun _ => ?_) (fun h' => absurd c1 h')
    refine Ev.cond (fun h1 => ?_) (fun h1 => ?_)
    · rw [isLow_not hb (.inl h1)]; exact Ev.now _
    refine Ev.cond (fun h2 => ?_) (fun h2 => ?_)
    · rw [isLow_not hb (.inr h2)]; exact Ev.now _
    rw [isLow_yes hb h1 h2, Bool.true_and]
    exact h3
theorem IsNameI_ev (s : ByteArray) (hn : s.size ≤ 1099511627776) : Ev (fun k => impl_IsName.f k s) (nameB s) := IsNameI_l0 s hn s.size 0 (by omega)

/-! IsBits -/
theorem trim_bits (s : ByteArray) (h : s.size ≤ 9223372036854775807) : strings_Trim.f s (⟨#[48, 49]⟩ : ByteArray) = some ⟨(Lib.trimS s.data.toList [48, 49]).toArray⟩ := by
  unfold strings_Trim.f
  rw [if_pos ⟨h, by decide, by decide⟩]
theorem areBits_eq (s : ByteArray) (h : s.size ≤ 9223372036854775807) : impl_areBits.f s = some (s.data.toList.all isBitB) := by
  unfold impl_areBits.f
  rw [trim_bits s h, Option.bind_some]
  congr 1
  have e1 : (⟨(Lib.trimS s.data.toList [48, 49]).toArray⟩ : ByteArray).toList = Lib.trimS s.data.toList [48, 49] := by rw [Lib.toList_data]
  rw [e1, Bool.eq_iff_iff, beq_iff_eq, trimS_nil]
  have e2 : (fun b => ([48, 49] : List UInt8).contains b) = isBitB := funext contains_bits
  rw [e2]
theorem IsBits_eq (s : ByteArray) (h : s.size ≤ 9223372036854775807) : impl_IsBits.f s = some (bitsB s) := by
  unfold impl_IsBits.f bitsB
  by_cases h4 : s.size ≤ 400
  · have h4' : (s.size : Int) ≤ 400 := by omega
    simp only [h4', if_true, areBits_eq s h, Option.bind_some, h4, decide_true, Bool.and_true]
  · have h4' : ¬ (s.size : Int) ≤ 400 := by omega
    simp only [h4', if_false, h4, decide_false, Bool.and_false]

/-! ValidConsoleI -/
theorem ValidConsoleI_l0 (ns ls : List ByteArray) (hl : ls.length = ns.length) (h6 : ns.length ≤ 6) (hs : totS ns ≤ 1099511627776) (ht : totS ls ≤ 1099511627776) : ∀ d n, n + d = ns.length → Ev (fun k => impl_ValidConsole.l0 k ns (ns.length : Int) (n : Int) ns ls) (conR ns ls n d) := by
  intro d
  induction d with
  | zero =>
    intro n h
    have c1 : ¬ (n : Int) < (ns.length : Int) := by omega
    apply Ev.succ
    simp only [impl_ValidConsole.l0]
    exact Ev.cond (fun h' => absurd h' c1) (fun _ => Ev.now _)
  | succ d ih =>
    intro n h
    have hn : n < ns.length := by omega
    have c1 : (n : Int) < (ns.length : Int) := by omega
    have c2 : (0 : Int) ≤ (n : Int) := by omega
    have c3 : (n : Int) < (ls.length : Int) := by omega
    have h3 := ih (n + 1) (by omega)
    have z1 := Nat.le_trans (sn_size ns n) hs
    have z2 := Nat.le_trans (sn_size ls n) ht
    have tail : Ev (fun k => if (n : Int) < (ls.length : Int) then ((impl_IsBits.f (sn ls n)).bind fun t2 => (if t2 = true then (impl_ValidConsole.l0 k ns (ns.length : Int) ((n + 1 : Nat) : Int) ns ls) else (some false))) else (none)) (bitsB (sn ls n) && conR ns ls (n + 1) d) := by
      refine Ev.cond (fun _ => ?_) (fun h' => absurd c3 h')
      refine Ev.bind (Ev.const (IsBits_eq _ (by omega))) ?_
      rcases bitsB (sn ls n) with _ | _
      · exact Ev.cond (fun h' => absurd h' (by decide)) (fun _ => Ev.now _)
      · exact Ev.cond (fun _ => h3) (fun h' => absurd rfl h')
    rw [conR_succ]
    unfold conI
    apply Ev.succ
    simp only [impl_ValidConsole.l0, sr_nat, w64_succ (show n < 9223372036854775807 by omega)]
    refine Ev.cond (fun _ => ?_) (fun h' => absurd c1 h')
    refine Ev.cond (fun _ => ?_) (fun h' => absurd c2 h')
    refine Ev.cond (fun _ => ?_) (fun h' => absurd c1 h')
    refine Ev.bind (IsNameI_ev _ z1) ?_
    rcases nameB (sn ns n) with _ | _
    · exact Ev.cond (fun h' => absurd h' (by decide)) (fun _ => Ev.now _)
    refine Ev.cond (fun _ => ?_) (fun h' => absurd rfl h')
    rw [Bool.true_and]
    rcases Nat.eq_zero_or_pos n with h0 | h0
    · have c4 : ¬ (n : Int) > 0 := by omega
      rw [decide_eq_true h0, Bool.true_or, Bool.true_and]
      exact Ev.cond (fun h' => absurd h' c4) (fun _ => tail)
    · have c4 : (n : Int) > 0 := by omega
      have c5 : (0 : Int) ≤ ((n - 1 : Nat) : Int) := by omega
      have c6 : ((n - 1 : Nat) : Int) < (ns.length : Int) := by omega
      have e : wrap64 ((n : Int) - 1) = ((n - 1 : Nat) : Int) := by rw [w64 (by omega) (by omega)]; omega
      rw [decide_eq_false (show ¬ n = 0 by omega), Bool.false_or]
      simp only [e, sr_nat]
      refine Ev.cond (fun _ => ?_) (fun h' => absurd c4 h')
      refine Ev.cond (fun _ => ?_) (fun h' => absurd c5 h')
      refine Ev.cond (fun _ => ?_) (fun h' => absurd c6 h')
      rcases Op.bytesLess (sn ns (n - 1)).toList (sn ns n).toList with _ | _
      · exact Ev.cond (fun h' => absurd h' (by decide)) (fun _ => Ev.now _)
      · rw [Bool.true_and]
        exact Ev.cond (fun _ => tail) (fun h' => absurd rfl h')
theorem ValidConsoleI_ev (ns ls : List ByteArray) (hn : ns.length ≤ 1099511627776) (hs : totS ns ≤ 1099511627776) (ht : totS ls ≤ 1099511627776) : Ev (fun k => impl_ValidConsole.f k ns ls) (conB ns ls) := by
  unfold impl_ValidConsole.f conB
  by_cases h6 : ns.length ≤ 6
  · have c1 : ¬ (ns.length : Int) > 6 := by omega
    refine Ev.cond (fun h' => absurd h' c1) (fun _ => ?_)
    apply Ev.succ
    simp only [impl_ValidConsole.j0]
    by_cases hl : ls.length = ns.length
    · have c2 : (ls.length : Int) = (ns.length : Int) := by omega
      rw [decide_eq_true ⟨h6, hl⟩, Bool.true_and, c2, bne_self_eq_false]
      exact Ev.cond (fun h' => absurd h' (by decide)) (fun _ => ValidConsoleI_l0 ns ls hl h6 hs ht ns.length 0 (by omega))
    · have c2 : ¬ (ls.length : Int) = (ns.length : Int) := by omega
      rw [decide_eq_false (fun h => hl h.2), Bool.false_and, bne_iff_ne.2 c2]
      exact Ev.cond (fun _ => Ev.now _) (fun h' => absurd rfl h')
  · have c1 : (ns.length : Int) > 6 := by omega
    rw [decide_eq_false (fun h => h6 h.1), Bool.false_and]
    refine Ev.cond (fun _ => ?_) (fun h' => absurd c1 h')
    apply Ev.succ
    simp only [impl_ValidConsole.j0]
    exact Ev.cond (fun _ => Ev.now _) (fun h' => absurd (by trivial) h')

/-! szStringS -/
theorem szS_l0 (xs : List ByteArray) (hs : ∀ x ∈ xs, x.size ≤ 9223372036854775807) (hn : xs.length ≤ 1099511627776) : ∀ (d n : Nat) (left : Int), n + d = xs.length → 0 ≤ left → left ≤ 1048576 → ∃ v : Int, Ev (fun k => laws_szStringS.l0 k xs left (n : Int)) v ∧ (v = -1 ∨ (0 ≤ v ∧ v + (totS (xs.drop n) : Int) = left)) := by
  intro d
  induction d with
  | zero =>
    intro n left h h0 h1
    have c1 : ¬ (n : Int) < (xs.length : Int) := by omega
    refine ⟨left, ?_, .inr ⟨h0, ?_⟩⟩
    · apply Ev.succ
      simp only [laws_szStringS.l0]
      exact Ev.cond (fun h' => absurd h' c1) (fun _ => Ev.now _)
    · rw [List.drop_eq_nil_of_le (by omega)]
      simp [totS]
  | succ d ih =>
    intro n left h h0 h1
    have hl : n < xs.length := by omega
    have c1 : (n : Int) < (xs.length : Int) := by omega
    have c2 : (0 : Int) ≤ (n : Int) := by omega
    have hb := hs _ (sn_mem hl)
    have e : wrap64 (left - ((sn xs n).size : Int)) = left - ((sn xs n).size : Int) := w64 (by omega) (by omega)
    by_cases hc : left - ((sn xs n).size : Int) < 0
    · refine ⟨-1, ?_, .inl rfl⟩
      apply Ev.succ
      simp only [laws_szStringS.l0, sr_nat, e]
      refine Ev.cond (fun _ => ?_) (fun h' => absurd c1 h')
      refine Ev.cond (fun _ => ?_) (fun h' => absurd c2 h')
      exact Ev.cond (fun _ => Ev.now _) (fun h' => absurd hc h')
    · obtain ⟨v, hv, hp⟩ := ih (n + 1) (left - ((sn xs n).size : Int)) (by omega) (by omega) (by omega)
      refine ⟨v, ?_, ?_⟩
      · apply Ev.succ
        simp only [laws_szStringS.l0, sr_nat, e, w64_succ (show n < 9223372036854775807 by omega)]
        refine Ev.cond (fun _ => ?_) (fun h' => absurd c1 h')
        refine Ev.cond (fun _ => ?_) (fun h' => absurd c2 h')
        exact Ev.cond (fun h' => absurd h' hc) (fun _ => hv)
      · rcases hp with hp | ⟨hp, hq⟩
        · exact .inl hp
        · refine .inr ⟨hp, ?_⟩
          rw [drop_sn hl]
          unfold totS
          omega
theorem szS_ev (xs : List ByteArray) (hs : ∀ x ∈ xs, x.size ≤ maxLen) (hn : xs.length ≤ maxLen) (left : Int) (h0 : 0 ≤ left) (h1 : left ≤ 1048576) : ∃ v : Int, Ev (fun k => laws_szStringS.f k xs left) v ∧ (v = -1 ∨ (0 ≤ v ∧ v + (xs.length : Int) + (totS xs : Int) = left)) := by
  have hmx : maxLen ≤ 9223372036854775807 := by decide
  have e : wrap64 (left - (xs.length : Int)) = left - (xs.length : Int) := w64 (by omega) (by omega)
  unfold laws_szStringS.f
  simp only [e]
  by_cases hc : left - (xs.length : Int) < 0
  · exact ⟨-1, Ev.cond (fun _ => Ev.now _) (fun h' => absurd hc h'), .inl rfl⟩
  · obtain ⟨v, hv, hp⟩ := szS_l0 xs (fun x hx => Nat.le_trans (hs x hx) hmx) (by omega) xs.length 0 (left - (xs.length : Int)) (by omega) (by omega) (by omega)
    refine ⟨v, Ev.cond (fun h' => absurd h' hc) (fun _ => hv), ?_⟩
    rcases hp with hp | ⟨hp, hq⟩
    · exact .inl hp
    · rw [List.drop_zero] at hq
      exact .inr ⟨hp, by omega⟩

/-! toStringS -/
theorem toStringS_l0 (xs : List ByteArray) (hn : xs.length ≤ 1099511627776) : ∀ d n, n + d = xs.length → Ev (fun k => laws_toStringS.l0 k xs (xs.take n ++ List.replicate d (⟨#[]⟩ : ByteArray)) (n : Int)) xs := by
  intro d
  induction d with
  | zero =>
    intro n h
    have c1 : ¬ (n : Int) < (xs.length : Int) := by omega
    rw [List.take_of_length_le (by omega), List.replicate_zero, List.append_nil]
    apply Ev.succ
    simp only [laws_toStringS.l0]
    exact Ev.cond (fun h' => absurd h' c1) (fun _ => Ev.now _)
  | succ d ih =>
    intro n h
    have hl : n < xs.length := by omega
    have c1 : (n : Int) < (xs.length : Int) := by omega
    have c2 : (0 : Int) ≤ (n : Int) := by omega
    have h3 := ih (n + 1) (by omega)
    have c4 : (n : Int) < ((xs.take n ++ List.replicate (d + 1) (⟨#[]⟩ : ByteArray)).length : Int) := by
      simp only [List.length_append, List.length_take, List.length_replicate]; omega
    have h5 : (xs.take n ++ List.replicate (d + 1) (⟨#[]⟩ : ByteArray)).set n (sn xs n) = xs.take (n + 1) ++ List.replicate d (⟨#[]⟩ : ByteArray) := by
      rw [List.replicate_succ, set_mid _ _ _ _ _ (by rw [List.length_take]; omega), take_sn hl, List.append_assoc, List.singleton_append]
    apply Ev.succ
    simp only [laws_toStringS.l0, sr_nat, Int.toNat_natCast, h5, w64_succ (show n < 9223372036854775807 by omega)]
    refine Ev.cond (fun _ => ?_) (fun h' => absurd c1 h')
    refine Ev.cond (fun _ => ?_) (fun h' => absurd c2 h')
    exact Ev.cond (fun _ => h3) (fun h' => absurd c4 h')
theorem toStringS_ev (xs : List ByteArray) (hn : xs.length ≤ 1099511627776) : Ev (fun k => laws_toStringS.f k xs) xs := by
  have c1 : (0 : Int) ≤ (xs.length : Int) := by omega
  have c2 : xs.length ≤ 17592186044416 := by omega
  unfold laws_toStringS.f
  simp only [Int.toNat_natCast]
  refine Ev.cond (fun _ => ?_) (fun h' => absurd c1 h')
  exact Ev.cond (fun _ => toStringS_l0 xs hn xs.length 0 (by omega)) (fun h' => absurd c2 h')

/-! eqStringS -/
theorem eqStringS_l0 (xs ys : List ByteArray) (hl : xs.length = ys.length) (hn : xs.length ≤ 1099511627776) : ∀ d n, n + d = xs.length → Ev (fun k => laws_eqStringS.l0 k xs ys (n : Int)) (decide (xs.drop n = ys.drop n)) := by
  intro d
  induction d with
  | zero =>
    intro n h
    have c1 : ¬ (n : Int) < (xs.length : Int) := by omega
    rw [List.drop_eq_nil_of_le (show xs.length ≤ n by omega), List.drop_eq_nil_of_le (show ys.length ≤ n by omega), decide_eq_true rfl]
    apply Ev.succ
    simp only [laws_eqStringS.l0]
    exact Ev.cond (fun h' => absurd h' c1) (fun _ => Ev.now _)
  | succ d ih =>
    intro n h
    have c1 : (n : Int) < (xs.length : Int) := by omega
    have c2 : (0 : Int) ≤ (n : Int) := by omega
    have c3 : (n : Int) < (ys.length : Int) := by omega
    have h3 := ih (n + 1) (by omega)
    rw [drop_sn (show n < xs.length by omega), drop_sn (show n < ys.length by omega)]
    apply Ev.succ
    simp only [laws_eqStringS.l0, sr_nat, w64_succ (show n < 9223372036854775807 by omega), List.cons.injEq]
    refine Ev.cond (fun _ => ?_) (fun h' => absurd c1 h')
    refine Ev.cond (fun _ => ?_) (fun h' => absurd c2 h')
    refine Ev.cond (fun _ => ?_) (fun h' => absurd c3 h')
    by_cases hc : (sn xs n) = (sn ys n)
    · refine Ev.cond (fun _ => ?_) (fun h' => absurd (by rw [hc]) h')
      simp only [hc, true_and]; exact h3
    · refine Ev.cond (fun h' => absurd (bytes_ext h') hc) (fun _ => ?_)
      simp only [hc, false_and, decide_false]; exact Ev.now false
theorem eqStringS_ev (xs ys : List ByteArray) (hn : xs.length ≤ 1099511627776) : Ev (fun k => laws_eqStringS.f k xs ys) (decide (xs = ys)) := by
  unfold laws_eqStringS.f
  by_cases hl : xs.length = ys.length
  · have c1 : (xs.length : Int) = (ys.length : Int) := by omega
    exact Ev.cond (fun _ => eqStringS_l0 xs ys hl hn xs.length 0 (by omega)) (fun h' => absurd c1 h')
  · have c1 : ¬ (xs.length : Int) = (ys.length : Int) := by omega
    rw [decide_eq_false (fun h => hl (by rw [h]))]
    exact Ev.cond (fun h' => absurd h' c1) (fun _ => Ev.now false)
theorem eqStringS_same (xs : List ByteArray) (hn : xs.length ≤ 1099511627776) : Ev (fun k => laws_eqStringS.f k xs xs) true := by
  have h := eqStringS_ev xs xs hn
  rw [decide_eq_true rfl] at h
  exact h

theorem FnExactValidConsole : laws_FnExactValidConsole.Pure := by
  intro ns ls hm0 hx0 hm1 hx1
  refine Ev.rounds ?_
  unfold laws_FnExactValidConsole.f laws_szConsole.f
  obtain ⟨v, hv, hp⟩ := szS_ev ns hx0 hm0 1048576 (by omega) (by omega)
  rcases hp with rfl | ⟨hp, hq⟩
  · refine Ev.bind (Ev.bind hv (Ev.cond (fun _ => Ev.now (-1)) (fun h' => absurd (by decide) h'))) ?_
    exact Ev.cond (fun _ => Ev.now _) (fun h' => absurd (by decide) h')
  obtain ⟨u, hu, hp2⟩ := szS_ev ls hx1 hm1 v hp (by omega)
  have n1 : ¬ v < 0 := by omega
  rcases hp2 with rfl | ⟨hp2, hq2⟩
  · refine Ev.bind (Ev.bind hv (Ev.cond (fun h' => absurd h' n1) (fun _ => Ev.bind hu (Ev.cond (fun _ => Ev.now (-1)) (fun h' => absurd (by decide) h'))))) ?_
    exact Ev.cond (fun _ => Ev.now _) (fun h' => absurd (by decide) h')
  have n2 : ¬ u < 0 := by omega
  refine Ev.bind (Ev.bind hv (Ev.cond (fun h' => absurd h' n1) (fun _ => Ev.bind hu (Ev.cond (fun h' => absurd h' n2) (fun _ => Ev.now u))))) ?_
  refine Ev.cond (fun h' => absurd h' n2) (fun _ => ?_)
  have l1 : ns.length ≤ 1099511627776 := by omega
  have l2 : ls.length ≤ 1099511627776 := by omega
  have z1 : totS ns ≤ 1099511627776 := by omega
  have z2 : totS ls ≤ 1099511627776 := by omega
  have hto : Ev (fun k => laws_toConsole.f k ns ls) (ns, ls) := by
    unfold laws_toConsole.f
    exact Ev.bind (toStringS_ev ns l1) (Ev.bind (toStringS_ev ls l2) (Ev.now _))
  refine Ev.bind hto (Ev.bind (ValidConsoleS_ev ns ls l1 z1 z2) (Ev.bind hto (Ev.bind (ValidConsoleI_ev ns ls l1 z1 z2) ?_)))
  rw [bne_self_eq_false]
  refine Ev.cond (fun h' => absurd h' (by decide)) (fun _ => ?_)
  have heq : Ev (fun k => laws_eqConsole.f k ns ls ns ls) true := by
    unfold laws_eqConsole.f
    refine Ev.bind (eqStringS_same ns l1) (Ev.cond (fun _ => ?_) (fun h' => absurd rfl h'))
    exact Ev.bind (eqStringS_same ls l2) (Ev.cond (fun _ => Ev.now _) (fun h' => absurd rfl h'))
  refine Ev.bind hto (Ev.bind heq ?_)
  exact Ev.cond (fun _ => Ev.now _) (fun h' => absurd rfl h')

end Go.Proofs.YtohdepanfnaddaaDoor.Pure
