/- For all words, symbols and places the program's FlipLoss answers what the reference's does. -/
import Derived.Test.YtohdepanfnaddaaDoorQFnExactFlipLossx9
import Derived.Test.YtohdepanfnaddaaDoorBase
namespace Go.Proofs.YtohdepanfnaddaaDoor.Pure
open Go.RowKit Go.Proofs.YtohdepanfnaddaaDoor.QFnExactFlipLoss Go.Proofs.YtohdepanfnaddaaDoor.Base Go.Proofs.YtohdepanfnaddaaDoorW.PrintWords Go.Proofs.YtohdepanfnaddaaDoorW.PrintLast Go.Proofs.YtohdepanfnaddaaDoorW.PrintMore
set_option linter.unusedVariables false
set_option linter.unusedSimpArgs false

/-! strL -/
/-- A text of a list, by its place. -/
def sn (xs : List ByteArray) (n : Nat) : ByteArray := xs.getD n ByteArray.empty
theorem sr_nat (xs : List ByteArray) (n : Nat) : rdOf ByteArray.empty xs (n : Int) = sn xs n := by unfold rdOf sn; rw [Int.toNat_natCast]
theorem sn_get {xs : List ByteArray} {n : Nat} (h : n < xs.length) : sn xs n = xs[n] := by
  unfold sn
  rw [List.getD_eq_getElem?_getD, List.getElem?_eq_getElem h]; rfl
theorem sn_mem {xs : List ByteArray} {n : Nat} (h : n < xs.length) : sn xs n ∈ xs := by rw [sn_get h]; exact List.getElem_mem h
theorem drop_sn {xs : List ByteArray} {n : Nat} (h : n < xs.length) : xs.drop n = sn xs n :: xs.drop (n + 1) := by
  rw [sn_get h, List.drop_eq_getElem_cons h]
theorem take_sn {xs : List ByteArray} {n : Nat} (h : n < xs.length) : xs.take (n + 1) = xs.take n ++ [sn xs n] := by
  rw [sn_get h, List.take_succ_eq_append_getElem h]
/-- The sizes of texts together. -/
def totS : List ByteArray → Nat
  | [] => 0
  | x :: r => x.size + totS r
theorem totS_mem {xs : List ByteArray} {x : ByteArray} (h : x ∈ xs) : x.size ≤ totS xs := by
  induction xs with
  | nil => exact absurd h (by simp)
  | cons y xs ih =>
    unfold totS
    rcases List.mem_cons.1 h with rfl | h
    · omega
    · have := ih h; omega
theorem sn_size (xs : List ByteArray) (n : Nat) : (sn xs n).size ≤ totS xs := by
  by_cases h : n < xs.length
  · exact totS_mem (sn_mem h)
  · have e : sn xs n = ByteArray.empty := by
      unfold sn
      rw [List.getD_eq_getElem?_getD, List.getElem?_eq_none (by omega)]; rfl
    rw [e]; exact Nat.zero_le _
theorem bytes_ext {a b : ByteArray} (h : a.toList = b.toList) : a = b := by
  rw [Lib.toList_data, Lib.toList_data] at h
  exact ByteArray.ext (Array.ext' h)
instance decMemS : (x : ByteArray) → (xs : List ByteArray) → Decidable (x ∈ xs)
  | x, [] => isFalse (by simp)
  | x, y :: r => if h : x = y then isTrue (by rw [h]; exact List.mem_cons_self) else match decMemS x r with
    | isTrue h2 => isTrue (List.mem_cons_of_mem _ h2)
    | isFalse h2 => isFalse (fun h3 => by rcases List.mem_cons.1 h3 with h3 | h3; exact h h3; exact h2 h3)

/-! code05 -/
/-- What a code has at a place. -/
def codeI (ws : List ByteArray) (n : Nat) : Bool := decide (1 ≤ (sn ws n).size ∧ (sn ws n).size ≤ 12) && ((sn ws n).data.toList.all isBitB && !decide (sn ws n ∈ ws.take n))
def codeR (ws : List ByteArray) (n d : Nat) : Bool := (List.range' n d).all (codeI ws)
theorem codeR_succ (ws : List ByteArray) (n d : Nat) : codeR ws n (d + 1) = (codeI ws n && codeR ws (n + 1) d) := rfl
/-- A code. -/
def codeB (ws : List ByteArray) : Bool := decide (1 ≤ ws.length ∧ ws.length ≤ 16) && codeR ws 0 ws.length
theorem codeR_at (ws : List ByteArray) : ∀ (d n : Nat), codeR ws n d = true → ∀ i, n ≤ i → i < n + d → codeI ws i = true := by
  intro d n h i h1 h2
  unfold codeR at h
  rw [List.all_eq_true] at h
  exact h i (List.mem_range'_1.2 ⟨h1, h2⟩)
theorem codeB_len {ws : List ByteArray} (h : codeB ws = true) : 1 ≤ ws.length ∧ ws.length ≤ 16 := by
  unfold codeB at h
  rw [Bool.and_eq_true] at h
  exact of_decide_eq_true h.1
theorem codeB_at {ws : List ByteArray} (h : codeB ws = true) {i : Nat} (hi : i < ws.length) : (1 ≤ (sn ws i).size ∧ (sn ws i).size ≤ 12) ∧ (sn ws i).data.toList.all isBitB = true ∧ sn ws i ∉ ws.take i := by
  unfold codeB at h
  rw [Bool.and_eq_true] at h
  have h2 := codeR_at ws _ _ h.2 i (Nat.zero_le _) (by omega)
  unfold codeI at h2
  rw [Bool.and_eq_true, Bool.and_eq_true, Bool.not_eq_true', decide_eq_false_iff_not] at h2
  exact ⟨of_decide_eq_true h2.1, h2.2.1, h2.2.2⟩
theorem codeB_size {ws : List ByteArray} (h : codeB ws = true) (i : Nat) : (sn ws i).size ≤ 12 := by
  by_cases hi : i < ws.length
  · exact (codeB_at h hi).1.2
  · have e : sn ws i = ByteArray.empty := by
      unfold sn
      rw [List.getD_eq_getElem?_getD, List.getElem?_eq_none (by omega)]; rfl
    rw [e]; exact Nat.zero_le _
/-- Whether a text begins another one. -/
def isPre (p s : ByteArray) : Bool := decide (p.size ≤ s.size) && ((s.extract 0 p.size).toList == p.toList)
def preR (ws : List ByteArray) (i n d : Nat) : Bool := (List.range' n d).all (fun k => decide (i = k) || !isPre (sn ws i) (sn ws k))
theorem preR_succ (ws : List ByteArray) (i n d : Nat) : preR ws i n (d + 1) = ((decide (i = n) || !isPre (sn ws i) (sn ws n)) && preR ws i (n + 1) d) := rfl
def prefR (ws : List ByteArray) (n d : Nat) : Bool := (List.range' n d).all (fun i => preR ws i 0 ws.length)
theorem prefR_succ (ws : List ByteArray) (n d : Nat) : prefR ws n (d + 1) = (preR ws n 0 ws.length && prefR ws (n + 1) d) := rfl
/-- The sum of the words' shares. -/
def krF : List ByteArray → Int → Int
  | [], a => a
  | w :: r, a => krF r (wrap64 (a + shl .i64 1 (12 - (w.size : Int))))
/-- A complete code's property, of a code. -/
def complB (ws : List ByteArray) : Bool := prefR ws 0 ws.length && decide (krF ws 0 = 4096)

/-! idxS -/
/-- The place of a text in a list from a number on, or -1. -/
def idxS : List ByteArray → Nat → ByteArray → Int
  | [], _, _ => -1
  | y :: r, n, x => if y = x then (n : Int) else idxS r (n + 1) x
theorem idxS_pos : ∀ (r : List ByteArray) (n : Nat) (x : ByteArray), 0 ≤ idxS r n x ↔ x ∈ r
  | [], n, x => by simp [idxS]
  | y :: r, n, x => by
    unfold idxS
    by_cases h : y = x
    · rw [if_pos h]
      exact ⟨fun _ => by rw [h]; exact List.mem_cons_self, fun _ => by omega⟩
    · rw [if_neg h, idxS_pos r (n + 1) x, List.mem_cons]
      exact ⟨fun h2 => .inr h2, fun h2 => by rcases h2 with h2 | h2; exact absurd h2.symm h; exact h2⟩
theorem l03Index_l0 (xs : List ByteArray) (x : ByteArray) (hn : xs.length ≤ 1099511627776) : ∀ d n, n + d = xs.length → Ev (fun k => spec_l03Index.l0 k xs x (n : Int)) (idxS (xs.drop n) n x) := by
  intro d
  induction d with
  | zero =>
    intro n h
    have c1 : ¬ (n : Int) < (xs.length : Int) := by omega
    rw [List.drop_eq_nil_of_le (by omega)]
    apply Ev.succ
    simp only [spec_l03Index.l0]
    exact Ev.cond (fun h' => absurd h' c1) (fun _ => Ev.now _)
  | succ d ih =>
    intro n h
    have hl : n < xs.length := by omega
    have c1 : (n : Int) < (xs.length : Int) := by omega
    have c2 : (0 : Int) ≤ (n : Int) := by omega
    have h3 := ih (n + 1) (by omega)
    rw [drop_sn hl]
    unfold idxS
    apply Ev.succ
    simp only [spec_l03Index.l0, sr_nat, w64_succ (show n < 9223372036854775807 by omega)]
    refine Ev.cond (fun _ => ?_) (fun h' => absurd c1 h')
    refine Ev.cond (fun _ => ?_) (fun h' => absurd c2 h')
    by_cases hc : sn xs n = x
    · rw [if_pos hc]
      exact Ev.cond (fun _ => Ev.now _) (fun h' => absurd (by rw [hc]) h')
    · rw [if_neg hc]
      exact Ev.cond (fun h' => absurd (bytes_ext h') hc) (fun _ => h3)
theorem l03Index_ev (xs : List ByteArray) (x : ByteArray) (hn : xs.length ≤ 1099511627776) : Ev (fun k => spec_l03Index.f k xs x) (idxS xs 0 x) := l03Index_l0 xs x hn xs.length 0 (by omega)
theorem sIndex_l0 (xs : List ByteArray) (x : ByteArray) (hn : xs.length ≤ 1099511627776) : ∀ d n, n + d = xs.length → Ev (fun k => slices_Index_string_string.l0 k xs x (xs.length : Int) (n : Int)) (idxS (xs.drop n) n x) := by
  intro d
  induction d with
  | zero =>
    intro n h
    have c1 : ¬ (n : Int) < (xs.length : Int) := by omega
    rw [List.drop_eq_nil_of_le (by omega)]
    apply Ev.succ
    simp only [slices_Index_string_string.l0]
    exact Ev.cond (fun h' => absurd h' c1) (fun _ => Ev.now _)
  | succ d ih =>
    intro n h
    have hl : n < xs.length := by omega
    have c1 : (n : Int) < (xs.length : Int) := by omega
    have c2 : (0 : Int) ≤ (n : Int) := by omega
    have h3 := ih (n + 1) (by omega)
    rw [drop_sn hl]
    unfold idxS
    apply Ev.succ
    simp only [slices_Index_string_string.l0, sr_nat, w64_succ (show n < 9223372036854775807 by omega)]
    refine Ev.cond (fun _ => ?_) (fun h' => absurd c1 h')
    refine Ev.cond (fun _ => ?_) (fun h' => absurd c2 h')
    refine Ev.cond (fun _ => ?_) (fun h' => absurd c1 h')
    by_cases hc : sn xs n = x
    · rw [if_pos hc]
      exact Ev.cond (fun _ => Ev.now _) (fun h' => absurd (by rw [hc]) h')
    · rw [if_neg hc]
      exact Ev.cond (fun h' => absurd (bytes_ext h').symm hc) (fun _ => h3)
theorem sIndex_ev (xs : List ByteArray) (x : ByteArray) (hn : xs.length ≤ 1099511627776) : Ev (fun k => slices_Index_string_string.f k xs x) (idxS xs 0 x) := sIndex_l0 xs x hn xs.length 0 (by omega)
theorem sContains_ev (xs : List ByteArray) (x : ByteArray) (hn : xs.length ≤ 1099511627776) : Ev (fun k => slices_Contains_string_string.f k xs x) (decide (x ∈ xs)) := by
  unfold slices_Contains_string_string.f
  refine Ev.bind (sIndex_ev xs x hn) (Ev.const ?_)
  congr 1
  exact decide_eq_decide.2 (idxS_pos xs 0 x)

/-! l01Bits -/
theorem l01Bits_l0 (s : ByteArray) (hn : s.size ≤ 1099511627776) : ∀ d n, n + d = s.size → Ev (fun k => spec_l01Bits.l0 k s (n : Int)) ((s.data.toList.drop n).all isBitB && decide (s.size ≤ 400)) := by
  intro d
  induction d with
  | zero =>
    intro n h
    apply Ev.succ
    have h1 : ¬ ((n : Int) < (s.size : Int)) := by omega
    have h2 : s.data.toList.drop n = [] := List.drop_eq_nil_of_le (by rw [size_data]; omega)
    have h3 : ((s.size : Int) ≤ 400) = (s.size ≤ 400) := propext ⟨fun h => by omega, fun h => by omega⟩
    simp only [spec_l01Bits.l0, h1, if_false, h2, h3]
    exact Ev.now _
  | succ d ih =>
    intro n h
    apply Ev.succ
    have hl : n < s.size := by omega
    have h1 : (n : Int) < (s.size : Int) := by omega
    have h2 : (0 : Int) ≤ (n : Int) := by omega
    have h3 := ih (n + 1) (by omega)
    rw [drop_data hl, List.all_cons]
    have hb := bt_nat s n hl
    have hi := isBit_iff (s[n])
    rw [← hb] at hi
    simp only [spec_l01Bits.l0, h1, h2, if_true, w64_succ (show n < 9223372036854775807 by omega)]
    by_cases c1 : bt s (n : Int) = 48
    · rw [hi.2 (.inl c1), Bool.true_and]
      simp only [c1, if_true]; exact h3
    · by_cases c2 : bt s (n : Int) = 49
      · rw [hi.2 (.inr c2), Bool.true_and]
        simp only [c2, if_true, Int.reduceEq, if_false]; exact h3
      · have hf : isBitB (s[n]) = false := by
          rw [Bool.eq_false_iff]; intro hc
          rcases hi.1 hc with hc | hc
          · exact c1 hc
          · exact c2 hc
        simp only [hf, Bool.false_and, c1, c2, if_false]
        exact Ev.now _
theorem l01Bits_ev (s : ByteArray) (hn : s.size ≤ 1099511627776) : Ev (fun k => spec_l01Bits.f k s) (bitsB s) := by
  have h := l01Bits_l0 s hn s.size 0 (by omega)
  exact h

/-! code05S -/
theorem bitsB_few {s : ByteArray} (h : s.size ≤ 400) : bitsB s = s.data.toList.all isBitB := by unfold bitsB; rw [decide_eq_true h, Bool.and_true]
theorem l05Is_l0 (ws : List ByteArray) (hn : ws.length ≤ 1000) (hs : totS ws ≤ 1099511627776) : ∀ d n, n + d = ws.length → Ev (fun k => spec_l05Is.l0 k ws (n : Int)) (codeR ws n d) := by
  intro d
  induction d with
  | zero =>
    intro n h
    have c1 : ¬ (n : Int) < (ws.length : Int) := by omega
    apply Ev.succ
    simp only [spec_l05Is.l0]
    exact Ev.cond (fun h' => absurd h' c1) (fun _ => Ev.now _)
  | succ d ih =>
    intro n h
    have c1 : (n : Int) < (ws.length : Int) := by omega
    have c2 : (0 : Int) ≤ (n : Int) := by omega
    have c4 : (n : Int) ≤ (ws.length : Int) := by omega
    have h3 := ih (n + 1) (by omega)
    have z1 := Nat.le_trans (sn_size ws n) hs
    have hi := l03Index_ev (ws.take n) (sn ws n) (by rw [List.length_take]; omega)
    rw [codeR_succ]
    unfold codeI
    apply Ev.succ
    simp only [spec_l05Is.l0, sr_nat, w64_succ (show n < 9223372036854775807 by omega), Int.toNat_natCast]
    refine Ev.cond (fun _ => ?_) (fun h' => absurd c1 h')
    refine Ev.cond (fun _ => ?_) (fun h' => absurd c2 h')
    refine Ev.cond (fun h1 => ?_) (fun h1 => ?_)
    · rw [decide_eq_false (show ¬ (1 ≤ (sn ws n).size ∧ (sn ws n).size ≤ 12) by omega)]; exact Ev.now _
    refine Ev.cond (fun h2 => ?_) (fun h2 => ?_)
    · rw [decide_eq_false (show ¬ (1 ≤ (sn ws n).size ∧ (sn ws n).size ≤ 12) by omega)]; exact Ev.now _
    rw [decide_eq_true (show 1 ≤ (sn ws n).size ∧ (sn ws n).size ≤ 12 by omega), Bool.true_and]
    refine Ev.bind (l01Bits_ev _ z1) ?_
    rw [bitsB_few (show (sn ws n).size ≤ 400 by omega)]
    rcases (sn ws n).data.toList.all isBitB with _ | _
    · exact Ev.cond (fun h' => absurd h' (by decide)) (fun _ => Ev.now _)
    refine Ev.cond (fun _ => ?_) (fun h' => absurd rfl h')
    refine Ev.cond (fun _ => ?_) (fun h' => absurd c4 h')
    refine Ev.bind hi ?_
    by_cases hm : sn ws n ∈ ws.take n
    · rw [decide_eq_true hm]
      exact Ev.cond (fun _ => Ev.now _) (fun h' => absurd ((idxS_pos _ _ _).2 hm) h')
    · rw [decide_eq_false hm]
      exact Ev.cond (fun h' => absurd ((idxS_pos _ _ _).1 h') hm) (fun _ => h3)
theorem l05Is_ev (ws : List ByteArray) (hn : ws.length ≤ 1099511627776) (hs : totS ws ≤ 1099511627776) : Ev (fun k => spec_l05Is.f k ws) (codeB ws) := by
  unfold spec_l05Is.f codeB
  by_cases h1 : 1 ≤ ws.length
  · have c1 : ¬ (ws.length : Int) < 1 := by omega
    refine Ev.cond (fun h' => absurd h' c1) (fun _ => ?_)
    apply Ev.succ
    simp only [spec_l05Is.j0]
    by_cases h2 : ws.length ≤ 16
    · rw [decide_eq_true (show 1 ≤ ws.length ∧ ws.length ≤ 16 from ⟨h1, h2⟩), Bool.true_and, decide_eq_false (show ¬ (ws.length : Int) > 16 by omega)]
      exact Ev.cond (fun h' => absurd h' (by decide)) (fun _ => l05Is_l0 ws (by omega) hs ws.length 0 (by omega))
    · rw [decide_eq_false (show ¬ (1 ≤ ws.length ∧ ws.length ≤ 16) from fun h => h2 h.2), decide_eq_true (show (ws.length : Int) > 16 by omega)]
      exact Ev.cond (fun _ => Ev.now _) (fun h' => absurd rfl h')
  · have c1 : (ws.length : Int) < 1 := by omega
    rw [decide_eq_false (show ¬ (1 ≤ ws.length ∧ ws.length ≤ 16) from fun h => h1 h.1)]
    refine Ev.cond (fun _ => ?_) (fun h' => absurd c1 h')
    apply Ev.succ
    simp only [spec_l05Is.j0]
    exact Ev.cond (fun _ => Ev.now _) (fun h' => absurd (by trivial) h')
theorem l01At_zero (s p : ByteArray) (hp : p.size ≤ 1099511627776) : spec_l01At.f s p 0 = some (isPre p s) := by
  unfold spec_l01At.f isPre
  have e : wrap64 (0 + (p.size : Int)) = (p.size : Int) := by rw [w64 (by omega) (by omega)]; omega
  simp only [e]
  by_cases h : p.size ≤ s.size
  · have c1 : (p.size : Int) ≤ (s.size : Int) := by omega
    have c2 : (0 : Int) ≤ (p.size : Int) := by omega
    rw [if_pos c1, if_pos (Int.le_refl 0), if_pos c2, decide_eq_true h, Bool.true_and]
    simp only [Int.toNat_natCast]; rfl
  · have c1 : ¬ (p.size : Int) ≤ (s.size : Int) := by omega
    rw [if_neg c1, decide_eq_false h]; rfl
theorem l05Prefix_l1 (ws : List ByteArray) (hn : ws.length ≤ 1000) (hs : totS ws ≤ 1099511627776) (i : Nat) (hi : i < ws.length) {r : Bool} (hr : Ev (fun k => spec_l05Prefix.l0 k ws ((i + 1 : Nat) : Int)) r) :
    ∀ d n, n + d = ws.length → Ev (fun k => spec_l05Prefix.l1 k ws (i : Int) (n : Int)) (preR ws i n d && r) := by
  have w1 := w64_succ (show i < 9223372036854775807 by omega)
  have c5 : (i : Int) < (ws.length : Int) := by omega
  have c6 : (0 : Int) ≤ (i : Int) := by omega
  intro d
  induction d with
  | zero =>
    intro n h
    have c1 : ¬ (n : Int) < (ws.length : Int) := by omega
    apply Ev.succ
    simp only [spec_l05Prefix.l1, w1]
    exact Ev.cond (fun h' => absurd h' c1) (fun _ => hr)
  | succ d ih =>
    intro n h
    have c1 : (n : Int) < (ws.length : Int) := by omega
    have c2 : (0 : Int) ≤ (n : Int) := by omega
    have h3 := ih (n + 1) (by omega)
    have z1 := Nat.le_trans (sn_size ws i) hs
    rw [preR_succ]
    apply Ev.succ
    simp only [spec_l05Prefix.l1, sr_nat, w64_succ (show n < 9223372036854775807 by omega), l01At_zero _ _ z1, Option.bind_some]
    refine Ev.cond (fun _ => ?_) (fun h' => absurd c1 h')
    by_cases hk : i = n
    · rw [decide_eq_true hk, Bool.true_or, Bool.true_and]
      exact Ev.cond (fun _ => h3) (fun h' => absurd (by rw [hk]) h')
    · rw [decide_eq_false hk, Bool.false_or]
      refine Ev.cond (fun h' => absurd (by omega) hk) (fun _ => ?_)
      refine Ev.cond (fun _ => ?_) (fun h' => absurd c2 h')
      refine Ev.cond (fun _ => ?_) (fun h' => absurd c6 h')
      refine Ev.cond (fun _ => ?_) (fun h' => absurd c5 h')
      rcases isPre (sn ws i) (sn ws n) with _ | _
      · exact Ev.cond (fun h' => absurd h' (by decide)) (fun _ => h3)
      · exact Ev.cond (fun _ => Ev.now _) (fun h' => absurd rfl h')
theorem l05Prefix_l0 (ws : List ByteArray) (hn : ws.length ≤ 1000) (hs : totS ws ≤ 1099511627776) : ∀ d n, n + d = ws.length → Ev (fun k => spec_l05Prefix.l0 k ws (n : Int)) (prefR ws n d) := by
  intro d
  induction d with
  | zero =>
    intro n h
    have c1 : ¬ (n : Int) < (ws.length : Int) := by omega
    apply Ev.succ
    simp only [spec_l05Prefix.l0]
    exact Ev.cond (fun h' => absurd h' c1) (fun _ => Ev.now _)
  | succ d ih =>
    intro n h
    have c1 : (n : Int) < (ws.length : Int) := by omega
    have h3 := l05Prefix_l1 ws hn hs n (by omega) (ih (n + 1) (by omega)) ws.length 0 (by omega)
    rw [prefR_succ]
    apply Ev.succ
    simp only [spec_l05Prefix.l0]
    exact Ev.cond (fun _ => h3) (fun h' => absurd c1 h')
theorem l05Kraft_l0 (ws : List ByteArray) (hn : ws.length ≤ 1000) (hs : ∀ i, (sn ws i).size ≤ 12) : ∀ d n a, n + d = ws.length → Ev (fun k => spec_l05Kraft.l0 k ws a (n : Int)) (krF (ws.drop n) a) := by
  intro d
  induction d with
  | zero =>
    intro n a h
    have c1 : ¬ (n : Int) < (ws.length : Int) := by omega
    rw [List.drop_eq_nil_of_le (by omega)]
    apply Ev.succ
    simp only [spec_l05Kraft.l0]
    exact Ev.cond (fun h' => absurd h' c1) (fun _ => Ev.now _)
  | succ d ih =>
    intro n a h
    have c1 : (n : Int) < (ws.length : Int) := by omega
    have c2 : (0 : Int) ≤ (n : Int) := by omega
    have hz := hs n
    have e : IntKind.u64.wrap (wrap64 (12 - ((sn ws n).size : Int))) = 12 - ((sn ws n).size : Int) := by
      rw [w64 (by omega) (by omega)]
      have e2 : ∀ z : Int, IntKind.u64.wrap z = z % 18446744073709551616 := fun z => by simp [IntKind.wrap, IntKind.bits, IntKind.signed]
      rw [e2]; omega
    have c3 : (0 : Int) ≤ 12 - ((sn ws n).size : Int) := by omega
    have h3 := ih (n + 1) (wrap64 (a + shl .i64 1 (12 - ((sn ws n).size : Int)))) (by omega)
    rw [drop_sn (show n < ws.length by omega)]
    unfold krF
    apply Ev.succ
    simp only [spec_l05Kraft.l0, sr_nat, w64_succ (show n < 9223372036854775807 by omega), e]
    refine Ev.cond (fun _ => ?_) (fun h' => absurd c1 h')
    refine Ev.cond (fun _ => ?_) (fun h' => absurd c2 h')
    exact Ev.cond (fun _ => h3) (fun h' => absurd c3 h')
theorem l05Complete_ev (ws : List ByteArray) (hc : codeB ws = true) (hs : totS ws ≤ 1099511627776) : Ev (fun k => spec_l05Complete.f k ws) (complB ws) := by
  obtain ⟨h1, h2⟩ := codeB_len hc
  unfold spec_l05Complete.f spec_l05Prefix.f spec_l05Kraft.f complB
  refine Ev.bind (l05Prefix_l0 ws (by omega) hs ws.length 0 (by omega)) ?_
  rcases prefR ws 0 ws.length with _ | _
  · exact Ev.cond (fun h' => absurd h' (by decide)) (fun _ => Ev.now _)
  refine Ev.cond (fun _ => ?_) (fun h' => absurd rfl h')
  refine Ev.bind (l05Kraft_l0 ws (by omega) (codeB_size hc) ws.length 0 0 (by omega)) (Ev.const ?_)
  rw [List.drop_zero, Bool.true_and]
  congr 1

/-! IsBits -/
theorem trim_bits (s : ByteArray) (h : s.size ≤ 9223372036854775807) : strings_Trim.f s (⟨#[48, 49]⟩ : ByteArray) = some ⟨(Lib.trimS s.data.toList [48, 49]).toArray⟩ := by
  unfold strings_Trim.f
  rw [if_pos ⟨h, by decide, by decide⟩]
theorem areBits_eq (s : ByteArray) (h : s.size ≤ 9223372036854775807) : impl_areBits.f s = some (s.data.toList.all isBitB) := by
  unfold impl_areBits.f
  rw [trim_bits s h, Option.bind_some]
  congr 1
  have e1 : (⟨(Lib.trimS s.data.toList [48, 49]).toArray⟩ : ByteArray).toList = Lib.trimS s.data.toList [48, 49] := by rw [Lib.toList_data]
  rw [e1, Bool.eq_iff_iff, beq_iff_eq, trimS_nil]
  have e2 : (fun b => ([48, 49] : List UInt8).contains b) = isBitB := funext contains_bits
  rw [e2]

/-! code05I -/
theorem IsCodeI_l0 (ws : List ByteArray) (hn : ws.length ≤ 1000) (hs : totS ws ≤ 1099511627776) : ∀ d n, n + d = ws.length → Ev (fun k => impl_IsCode.l0 k ws ws (ws.length : Int) (n : Int)) (codeR ws n d) := by
  intro d
  induction d with
  | zero =>
    intro n h
    have c1 : ¬ (n : Int) < (ws.length : Int) := by omega
    apply Ev.succ
    simp only [impl_IsCode.l0]
    exact Ev.cond (fun h' => absurd h' c1) (fun _ => Ev.now _)
  | succ d ih =>
    intro n h
    have c1 : (n : Int) < (ws.length : Int) := by omega
    have c2 : (0 : Int) ≤ (n : Int) := by omega
    have c4 : (n : Int) ≤ (ws.length : Int) := by omega
    have h3 := ih (n + 1) (by omega)
    have z1 := Nat.le_trans (sn_size ws n) hs
    have hi := sContains_ev (ws.take n) (sn ws n) (by rw [List.length_take]; omega)
    rw [codeR_succ]
    unfold codeI
    apply Ev.succ
    simp only [impl_IsCode.l0, sr_nat, w64_succ (show n < 9223372036854775807 by omega), Int.toNat_natCast]
    refine Ev.cond (fun _ => ?_) (fun h' => absurd c1 h')
    refine Ev.cond (fun _ => ?_) (fun h' => absurd c2 h')
    refine Ev.cond (fun _ => ?_) (fun h' => absurd c1 h')
    refine Ev.cond (fun h1 => ?_) (fun h1 => ?_)
    · rw [decide_eq_false (show ¬ (1 ≤ (sn ws n).size ∧ (sn ws n).size ≤ 12) by omega)]; exact Ev.now _
    refine Ev.cond (fun h2 => ?_) (fun h2 => ?_)
    · rw [decide_eq_false (show ¬ (1 ≤ (sn ws n).size ∧ (sn ws n).size ≤ 12) by omega)]; exact Ev.now _
    rw [decide_eq_true (show 1 ≤ (sn ws n).size ∧ (sn ws n).size ≤ 12 by omega), Bool.true_and]
    refine Ev.bind (Ev.const (areBits_eq _ (by omega))) ?_
    rcases (sn ws n).data.toList.all isBitB with _ | _
    · exact Ev.cond (fun h' => absurd h' (by decide)) (fun _ => Ev.now _)
    refine Ev.cond (fun _ => ?_) (fun h' => absurd rfl h')
    refine Ev.cond (fun _ => ?_) (fun h' => absurd c4 h')
    refine Ev.bind hi ?_
    rcases decide (sn ws n ∈ ws.take n) with _ | _
    · exact Ev.cond (fun h' => absurd h' (by decide)) (fun _ => h3)
    · exact Ev.cond (fun _ => Ev.now _) (fun h' => absurd rfl h')
theorem IsCodeI_ev (ws : List ByteArray) (hn : ws.length ≤ 1099511627776) (hs : totS ws ≤ 1099511627776) : Ev (fun k => impl_IsCode.f k ws) (codeB ws) := by
  unfold impl_IsCode.f codeB
  by_cases h1 : 1 ≤ ws.length
  · have c1 : ¬ (ws.length : Int) < 1 := by omega
    refine Ev.cond (fun h' => absurd h' c1) (fun _ => ?_)
    apply Ev.succ
    simp only [impl_IsCode.j0]
    by_cases h2 : ws.length ≤ 16
    · rw [decide_eq_true (show 1 ≤ ws.length ∧ ws.length ≤ 16 from ⟨h1, h2⟩), Bool.true_and, decide_eq_false (show ¬ (ws.length : Int) > 16 by omega)]
      exact Ev.cond (fun h' => absurd h' (by decide)) (fun _ => IsCodeI_l0 ws (by omega) hs ws.length 0 (by omega))
    · rw [decide_eq_false (show ¬ (1 ≤ ws.length ∧ ws.length ≤ 16) from fun h => h2 h.2), decide_eq_true (show (ws.length : Int) > 16 by omega)]
      exact Ev.cond (fun _ => Ev.now _) (fun h' => absurd rfl h')
  · have c1 : (ws.length : Int) < 1 := by omega
    rw [decide_eq_false (show ¬ (1 ≤ ws.length ∧ ws.length ≤ 16) from fun h => h1 h.1)]
    refine Ev.cond (fun _ => ?_) (fun h' => absurd c1 h')
    apply Ev.succ
    simp only [impl_IsCode.j0]
    exact Ev.cond (fun _ => Ev.now _) (fun h' => absurd (by trivial) h')
theorem HasPrefix_eq (s p : ByteArray) : strings_HasPrefix.f s p = some (isPre p s) := by
  unfold strings_HasPrefix.f stringslite_HasPrefix.f isPre
  by_cases h : p.size ≤ s.size
  · have c1 : (s.size : Int) ≥ (p.size : Int) := by omega
    have c2 : (0 : Int) ≤ (p.size : Int) := by omega
    rw [if_pos c1, if_pos c2, if_pos c1, decide_eq_true h, Bool.true_and]
    simp only [Int.toNat_natCast]; rfl
  · have c1 : ¬ (s.size : Int) ≥ (p.size : Int) := by omega
    rw [if_neg c1, decide_eq_false h]; rfl
theorem IsPrefixI_l1 (ws : List ByteArray) (hn : ws.length ≤ 1000) (i : Nat) (hi : i < ws.length) {r : Bool} (hr : Ev (fun k => impl_IsPrefixCode.l0 k ws ws (ws.length : Int) ((i + 1 : Nat) : Int)) r) :
    ∀ d n, n + d = ws.length → Ev (fun k => impl_IsPrefixCode.l1 k ws (i : Int) (sn ws i) ws (ws.length : Int) (i : Int) ws (ws.length : Int) (n : Int)) (preR ws i n d && r) := by
  have w1 := w64_succ (show i < 9223372036854775807 by omega)
  intro d
  induction d with
  | zero =>
    intro n h
    have c1 : ¬ (n : Int) < (ws.length : Int) := by omega
    apply Ev.succ
    simp only [impl_IsPrefixCode.l1, w1]
    exact Ev.cond (fun h' => absurd h' c1) (fun _ => hr)
  | succ d ih =>
    intro n h
    have c1 : (n : Int) < (ws.length : Int) := by omega
    have c2 : (0 : Int) ≤ (n : Int) := by omega
    have h3 := ih (n + 1) (by omega)
    rw [preR_succ]
    apply Ev.succ
    simp only [impl_IsPrefixCode.l1, sr_nat, w64_succ (show n < 9223372036854775807 by omega), HasPrefix_eq, Option.bind_some]
    refine Ev.cond (fun _ => ?_) (fun h' => absurd c1 h')
    refine Ev.cond (fun _ => ?_) (fun h' => absurd c2 h')
    refine Ev.cond (fun _ => ?_) (fun h' => absurd c1 h')
    by_cases hk : i = n
    · rw [decide_eq_true hk, Bool.true_or, Bool.true_and]
      exact Ev.cond (fun _ => h3) (fun h' => absurd (by rw [hk]) h')
    · rw [decide_eq_false hk, Bool.false_or]
      refine Ev.cond (fun h' => absurd (by omega) hk) (fun _ => ?_)
      rcases isPre (sn ws i) (sn ws n) with _ | _
      · exact Ev.cond (fun h' => absurd h' (by decide)) (fun _ => h3)
      · exact Ev.cond (fun _ => Ev.now _) (fun h' => absurd rfl h')
theorem IsPrefixI_l0 (ws : List ByteArray) (hn : ws.length ≤ 1000) : ∀ d n, n + d = ws.length → Ev (fun k => impl_IsPrefixCode.l0 k ws ws (ws.length : Int) (n : Int)) (prefR ws n d) := by
  intro d
  induction d with
  | zero =>
    intro n h
    have c1 : ¬ (n : Int) < (ws.length : Int) := by omega
    apply Ev.succ
    simp only [impl_IsPrefixCode.l0]
    exact Ev.cond (fun h' => absurd h' c1) (fun _ => Ev.now _)
  | succ d ih =>
    intro n h
    have c1 : (n : Int) < (ws.length : Int) := by omega
    have c2 : (0 : Int) ≤ (n : Int) := by omega
    have h3 := IsPrefixI_l1 ws hn n (by omega) (ih (n + 1) (by omega)) ws.length 0 (by omega)
    rw [prefR_succ]
    apply Ev.succ
    simp only [impl_IsPrefixCode.l0, sr_nat]
    refine Ev.cond (fun _ => ?_) (fun h' => absurd c1 h')
    refine Ev.cond (fun _ => ?_) (fun h' => absurd c2 h')
    exact Ev.cond (fun _ => h3) (fun h' => absurd c1 h')
theorem kraftI_l0 (ws : List ByteArray) (hn : ws.length ≤ 1000) (hs : ∀ i, (sn ws i).size ≤ 12) : ∀ d n a, n + d = ws.length → Ev (fun k => impl_kraft.l0 k a ws (ws.length : Int) (n : Int)) (krF (ws.drop n) a) := by
  intro d
  induction d with
  | zero =>
    intro n a h
    have c1 : ¬ (n : Int) < (ws.length : Int) := by omega
    rw [List.drop_eq_nil_of_le (by omega)]
    apply Ev.succ
    simp only [impl_kraft.l0]
    exact Ev.cond (fun h' => absurd h' c1) (fun _ => Ev.now _)
  | succ d ih =>
    intro n a h
    have c1 : (n : Int) < (ws.length : Int) := by omega
    have c2 : (0 : Int) ≤ (n : Int) := by omega
    have hz := hs n
    have e : wrap64 (12 - ((sn ws n).size : Int)) = 12 - ((sn ws n).size : Int) := w64 (by omega) (by omega)
    have c3 : (0 : Int) ≤ 12 - ((sn ws n).size : Int) := by omega
    have h3 := ih (n + 1) (wrap64 (a + shl .i64 1 (12 - ((sn ws n).size : Int)))) (by omega)
    rw [drop_sn (show n < ws.length by omega)]
    unfold krF
    apply Ev.succ
    simp only [impl_kraft.l0, sr_nat, w64_succ (show n < 9223372036854775807 by omega), e]
    refine Ev.cond (fun _ => ?_) (fun h' => absurd c1 h')
    refine Ev.cond (fun _ => ?_) (fun h' => absurd c2 h')
    refine Ev.cond (fun _ => ?_) (fun h' => absurd c1 h')
    exact Ev.cond (fun _ => h3) (fun h' => absurd c3 h')
theorem IsCompleteI_ev (ws : List ByteArray) (hn : ws.length ≤ 1099511627776) (hs : totS ws ≤ 1099511627776) : Ev (fun k => impl_IsCompleteCode.f k ws) (codeB ws && complB ws) := by
  unfold impl_IsCompleteCode.f impl_IsPrefixCode.f impl_kraft.f complB
  rcases hc : codeB ws with _ | _
  · have hp := IsCodeI_ev ws hn hs
    rw [hc] at hp
    refine Ev.bind (Ev.bind hp (Ev.cond (fun h' => absurd h' (by decide)) (fun _ => Ev.now false))) ?_
    exact Ev.cond (fun h' => absurd h' (by decide)) (fun _ => Ev.now _)
  · have hp := IsCodeI_ev ws hn hs
    rw [hc] at hp
    obtain ⟨h1, h2⟩ := codeB_len hc
    refine Ev.bind (Ev.bind hp (Ev.cond (fun _ => IsPrefixI_l0 ws (by omega) ws.length 0 (by omega)) (fun h' => absurd rfl h'))) ?_
    rcases prefR ws 0 ws.length with _ | _
    · exact Ev.cond (fun h' => absurd h' (by decide)) (fun _ => Ev.now _)
    refine Ev.cond (fun _ => ?_) (fun h' => absurd rfl h')
    refine Ev.bind (kraftI_l0 ws (by omega) (codeB_size hc) ws.length 0 0 (by omega)) (Ev.const ?_)
    rw [List.drop_zero, Bool.true_and, Bool.true_and]
    congr 1

/-! read05 -/
/-- What a reader has read of a word behind one more bit. -/
def rdB (ws : List ByteArray) (r b : ByteArray) : ByteArray := if r ++ b ∈ ws then (⟨#[]⟩ : ByteArray) else r ++ b
theorem rdB_size (ws : List ByteArray) (r b : ByteArray) : (rdB ws r b).size ≤ r.size + b.size := by
  unfold rdB
  by_cases h : r ++ b ∈ ws
  · rw [if_pos h]; exact Nat.zero_le _
  · rw [if_neg h, ByteArray.size_append]; exact Nat.le_refl _
/-- One byte of a text. -/
def sb (s : ByteArray) (n : Nat) : ByteArray := s.extract n (n + 1)
theorem sb_size {s : ByteArray} {n : Nat} (h : n < s.size) : (sb s n).size = 1 := by
  unfold sb
  rw [ByteArray.size_extract]; omega
/-- What a reader has read of a word behind some bits. -/
def rdN (ws : List ByteArray) (s : ByteArray) : Nat → ByteArray
  | 0 => ⟨#[]⟩
  | n + 1 => rdB ws (rdN ws s n) (sb s n)
theorem rdN_size (ws : List ByteArray) (s : ByteArray) : ∀ n, n ≤ s.size → (rdN ws s n).size ≤ n
  | 0, _ => Nat.le_refl _
  | n + 1, h => by
    have h1 := rdN_size ws s n (by omega)
    have h2 := rdB_size ws (rdN ws s n) (sb s n)
    rw [sb_size (show n < s.size by omega)] at h2
    show (rdB ws (rdN ws s n) (sb s n)).size ≤ n + 1
    omega
/-- Whether a word ends behind some bits. -/
def endAt (ws : List ByteArray) (s : ByteArray) (b : Nat) : Bool := (rdN ws s b).toList == ([] : List UInt8)
/-- Where words end. -/
def ownL (ws : List ByteArray) (s : ByteArray) (n d : Nat) : List Int := ((List.range' n d).filter (endAt ws s)).map (fun b : Nat => (b : Int))
theorem ownL_succ (ws : List ByteArray) (s : ByteArray) (n d : Nat) : ownL ws s n (d + 1) = if endAt ws s n = true then (n : Int) :: ownL ws s (n + 1) d else ownL ws s (n + 1) d := by
  unfold ownL
  rw [show List.range' n (d + 1) = n :: List.range' (n + 1) d from rfl, List.filter_cons]
  by_cases h : endAt ws s n = true
  · rw [if_pos h, if_pos h]; rfl
  · rw [if_neg h, if_neg h]

/-! read05S -/
theorem l05Read_ev (ws : List ByteArray) (hn : ws.length ≤ 1099511627776) (r b : ByteArray) (hs : r.size + b.size ≤ 1099511627776) : Ev (fun k => spec_l05Read.f k ws r b) (rdB ws r b) := by
  have c1 : r.size + b.size ≤ 9223372036854775807 := by omega
  unfold spec_l05Read.f rdB
  refine Ev.cond (fun _ => ?_) (fun h' => absurd c1 h')
  refine Ev.bind (l03Index_ev ws (r ++ b) hn) ?_
  by_cases hm : r ++ b ∈ ws
  · rw [if_pos hm]
    exact Ev.cond (fun _ => Ev.now _) (fun h' => absurd ((idxS_pos _ _ _).2 hm) h')
  · rw [if_neg hm]
    exact Ev.cond (fun h' => absurd ((idxS_pos _ _ _).1 h') hm) (fun _ => Ev.now _)
theorem l05Ends_l0 (ws : List ByteArray) (hn : ws.length ≤ 1099511627776) (s : ByteArray) (hs : s.size ≤ 1099511627776) : ∀ d n (out : List Int), n + d = s.size → out.length ≤ n → Ev (fun k => spec_l05Ends.l0 k ws s out (rdN ws s n) (n : Int)) (out ++ ownL ws s (n + 1) d) := by
  intro d
  induction d with
  | zero =>
    intro n out h ho
    have c1 : ¬ (n : Int) < (s.size : Int) := by omega
    have e : out ++ ownL ws s (n + 1) 0 = out := by
      have e2 : ownL ws s (n + 1) 0 = [] := rfl
      rw [e2, List.append_nil]
    rw [e]
    apply Ev.succ
    simp only [spec_l05Ends.l0]
    exact Ev.cond (fun h' => absurd h' c1) (fun _ => Ev.now _)
  | succ d ih =>
    intro n out h ho
    have hl : n < s.size := by omega
    have c1 : (n : Int) < (s.size : Int) := by omega
    have c2 : (0 : Int) ≤ (n : Int) := by omega
    have c3 : (n : Int) ≤ ((n + 1 : Nat) : Int) := by omega
    have c4 : ((n + 1 : Nat) : Int) ≤ (s.size : Int) := by omega
    have c5 : out.length < 17592186044416 := by omega
    have z1 := rdN_size ws s n (by omega)
    have hr : Ev (fun k => spec_l05Read.f k ws (rdN ws s n) (s.extract n (n + 1))) (rdN ws s (n + 1)) := l05Read_ev ws hn (rdN ws s n) (sb s n) (by rw [sb_size hl]; omega)
    rw [ownL_succ]
    apply Ev.succ
    simp only [spec_l05Ends.l0, w64_succ (show n < 9223372036854775807 by omega), Int.toNat_natCast]
    refine Ev.cond (fun _ => ?_) (fun h' => absurd c1 h')
    refine Ev.cond (fun _ => ?_) (fun h' => absurd c2 h')
    refine Ev.cond (fun _ => ?_) (fun h' => absurd c3 h')
    refine Ev.cond (fun _ => ?_) (fun h' => absurd c4 h')
    refine Ev.bind hr ?_
    by_cases he : endAt ws s (n + 1) = true
    · rw [if_pos he]
      have h3 := ih (n + 1) (out ++ [((n + 1 : Nat) : Int)]) (by omega) (by rw [List.length_append, List.length_singleton]; omega)
      rw [List.append_assoc, List.singleton_append] at h3
      refine Ev.cond (fun _ => ?_) (fun h' => absurd (eq_of_beq he) h')
      exact Ev.cond (fun _ => h3) (fun h' => absurd c5 h')
    · rw [if_neg he]
      have h3 := ih (n + 1) out (by omega) (by omega)
      exact Ev.cond (fun h' => absurd (beq_iff_eq.2 h') he) (fun _ => h3)
theorem l05Ends_ev (ws : List ByteArray) (hn : ws.length ≤ 1099511627776) (s : ByteArray) (hs : s.size ≤ 1099511627776) : Ev (fun k => spec_l05Ends.f k ws s) (ownL ws s 1 s.size) := l05Ends_l0 ws hn s hs s.size 0 [] (by omega) (Nat.le_refl _)

/-! read05I -/
theorem readI_ev (ws : List ByteArray) (hn : ws.length ≤ 1099511627776) (r b : ByteArray) (hs : r.size + b.size ≤ 1099511627776) : Ev (fun k => impl_read.f k ws r b) (rdB ws r b) := by
  have c1 : r.size + b.size ≤ 9223372036854775807 := by omega
  unfold impl_read.f rdB
  refine Ev.cond (fun _ => ?_) (fun h' => absurd c1 h')
  refine Ev.bind (sContains_ev ws (r ++ b) hn) ?_
  by_cases hm : r ++ b ∈ ws
  · rw [if_pos hm, decide_eq_true hm]
    exact Ev.cond (fun _ => Ev.now _) (fun h' => absurd rfl h')
  · rw [if_neg hm, decide_eq_false hm]
    exact Ev.cond (fun h' => absurd h' (by decide)) (fun _ => Ev.now _)
theorem endsI_l0 (ws : List ByteArray) (hn : ws.length ≤ 1099511627776) (s : ByteArray) (hs : s.size ≤ 1099511627776) : ∀ d n (out : List Bool), n + d = s.size → out.length ≤ n + 1 → Ev (fun k => impl_ends.l0 k ws s out (rdN ws s n) (s.size : Int) (n : Int)) (out ++ (List.range' (n + 1) d).map (endAt ws s)) := by
  intro d
  induction d with
  | zero =>
    intro n out h ho
    have c1 : ¬ (n : Int) < (s.size : Int) := by omega
    have e : out ++ (List.range' (n + 1) 0).map (endAt ws s) = out := List.append_nil out
    rw [e]
    apply Ev.succ
    simp only [impl_ends.l0]
    exact Ev.cond (fun h' => absurd h' c1) (fun _ => Ev.now _)
  | succ d ih =>
    intro n out h ho
    have hl : n < s.size := by omega
    have c1 : (n : Int) < (s.size : Int) := by omega
    have c2 : (0 : Int) ≤ (n : Int) := by omega
    have c3 : (n : Int) ≤ ((n + 1 : Nat) : Int) := by omega
    have c4 : ((n + 1 : Nat) : Int) ≤ (s.size : Int) := by omega
    have c5 : out.length < 140737488355328 := by omega
    have z1 := rdN_size ws s n (by omega)
    have hr : Ev (fun k => impl_read.f k ws (rdN ws s n) (s.extract n (n + 1))) (rdN ws s (n + 1)) := readI_ev ws hn (rdN ws s n) (sb s n) (by rw [sb_size hl]; omega)
    have h3 := ih (n + 1) (out ++ [endAt ws s (n + 1)]) (by omega) (by rw [List.length_append, List.length_singleton]; omega)
    rw [List.append_assoc, List.singleton_append] at h3
    apply Ev.succ
    simp only [impl_ends.l0, w64_succ (show n < 9223372036854775807 by omega), Int.toNat_natCast]
    refine Ev.cond (fun _ => ?_) (fun h' => absurd c1 h')
    refine Ev.cond (fun _ => ?_) (fun h' => absurd c2 h')
    refine Ev.cond (fun _ => ?_) (fun h' => absurd c3 h')
    refine Ev.cond (fun _ => ?_) (fun h' => absurd c4 h')
    refine Ev.bind hr ?_
    exact Ev.cond (fun _ => h3) (fun h' => absurd c5 h')
theorem endsI_ev (ws : List ByteArray) (hn : ws.length ≤ 1099511627776) (s : ByteArray) (hs : s.size ≤ 1099511627776) : Ev (fun k => impl_ends.f k ws s) (true :: (List.range' 1 s.size).map (endAt ws s)) := endsI_l0 ws hn s hs s.size 0 [true] (by omega) (Nat.le_refl _)
theorem endsI_rd (f : Nat → Bool) (m b : Nat) (h1 : 1 ≤ b) (h2 : b ≤ m) : rdOf false (true :: (List.range' 1 m).map f) (b : Int) = f b := by
  unfold rdOf
  rw [Int.toNat_natCast]
  obtain ⟨c, rfl⟩ : ∃ c, b = c + 1 := ⟨b - 1, by omega⟩
  rw [List.getD_eq_getElem?_getD, List.getElem?_cons_succ, List.getElem?_map, List.getElem?_eq_getElem (by rw [List.length_range']; omega), List.getElem_range']
  simp only [Option.map_some, Option.getD_some]
  congr 1
  omega

/-! strs -/
theorem str_size (l : List Int) : (strOfNums l).size = l.length := by
  show (strOfNums l).data.size = _
  simp [strOfNums]
theorem bt_str {xs : List Int} {k : Nat} (hk : k < xs.length) (h : 0 ≤ xs[k] ∧ xs[k] ≤ 255) : bt (strOfNums xs) (k : Int) = xs[k] := by
  have hk' : k < (strOfNums xs).size := by rw [str_size]; exact hk
  rw [bt_nat _ _ hk']
  have e : (strOfNums xs)[k]'hk' = UInt8.ofNat (xs[k]).toNat := by
    show (strOfNums xs).data[k]'_ = _
    simp [strOfNums]
  rw [e, UInt8.toNat_ofNat']
  omega
theorem all_bits_iff (s : ByteArray) : s.data.toList.all isBitB = true ↔ ∀ k : Nat, k < s.size → (bt s (k : Int) = 48 ∨ bt s (k : Int) = 49) := by
  rw [List.all_eq_true]
  constructor
  · intro h k hk
    rw [bt_nat s k hk]
    refine (isBit_iff _).1 (h _ ?_)
    rw [← data_get hk]; exact List.getElem_mem _
  · intro h b hb
    obtain ⟨k, hk, rfl⟩ := List.mem_iff_getElem.1 hb
    have hk' : k < s.size := by rw [← size_data]; exact hk
    rw [isBit_iff, data_get hk', ← bt_nat s k hk']
    exact h k hk'
theorem str_ext {s t : ByteArray} (h : s.size = t.size) (h2 : ∀ k : Nat, k < s.size → bt s (k : Int) = bt t (k : Int)) : s = t := by
  apply ByteArray.ext
  apply Array.ext
  · exact h
  · intro k h3 h4
    have e := h2 k h3
    rw [bt_nat s k h3, bt_nat t k h4] at e
    exact UInt8.toNat_inj.1 (by exact_mod_cast e)

/-! bitsX -/
def bitU (c : UInt8) : Prop := c = 48 ∨ c = 49
def xorB : List UInt8 → List UInt8 → List UInt8
  | x :: a, y :: b => (if x = y then 48 else 49) :: xorB a b
  | _, _ => []
theorem xorB_len : ∀ (a b : List UInt8), a.length = b.length → (xorB a b).length = a.length := by
  intro a
  induction a with
  | nil => intro b _; rfl
  | cons x a ih =>
    intro b h
    cases b with
    | nil => exact absurd h (by simp)
    | cons y b => simp only [xorB, List.length_cons]; rw [ih b (by simpa using h)]

/-! xorI -/
theorem bitU_of {l : List UInt8} (h : l.all isBitB = true) : ∀ c ∈ l, bitU c := by
  intro c hc
  rw [List.all_eq_true] at h
  rcases (isBit_iff _).1 (h c hc) with e | e
  · exact .inl (UInt8.toNat_inj.1 (by show c.toNat = 48; omega))
  · exact .inr (UInt8.toNat_inj.1 (by show c.toNat = 49; omega))
theorem of_bitU {l : List UInt8} (h : ∀ c ∈ l, bitU c) : l.all isBitB = true := by
  rw [List.all_eq_true]
  intro c hc
  rcases h c hc with rfl | rfl <;> decide
theorem xorB_bitU : ∀ (a b : List UInt8), ∀ c ∈ xorB a b, bitU c := by
  intro a
  induction a with
  | nil => intro b c hc; exact absurd hc (by simp [xorB])
  | cons x a ih =>
    intro b c hc
    cases b with
    | nil => exact absurd hc (by simp [xorB])
    | cons y b =>
      simp only [xorB] at hc
      rcases List.mem_cons.1 hc with rfl | hc
      · by_cases h : x = y
        · rw [if_pos h]; exact .inl rfl
        · rw [if_neg h]; exact .inr rfl
      · exact ih b c hc
def xorS (a b : ByteArray) : ByteArray := ⟨(xorB a.data.toList b.data.toList).toArray⟩
theorem xorS_data (a b : ByteArray) : (xorS a b).data.toList = xorB a.data.toList b.data.toList := rfl
theorem xorS_size (a b : ByteArray) (h : a.size = b.size) : (xorS a b).size = a.size := by
  rw [← size_data, xorS_data, xorB_len _ _ (by rw [size_data, size_data]; exact h), size_data]
theorem str_same {s t : ByteArray} (h : s.data.toList = t.data.toList) : s = t := ByteArray.ext (Array.ext' h)
theorem xor_l0 (a b : ByteArray) (h : a.size = b.size) (hs : a.size ≤ 1000) : ∀ (d n : Nat) (o : ByteArray), n + d = a.size → o.size ≤ n →
    Ev (fun k => impl_xorBits.l0 k a b o (n : Int)) (o ++ (⟨(xorB (a.data.toList.drop n) (b.data.toList.drop n)).toArray⟩ : ByteArray)) := by
  intro d
  induction d with
  | zero =>
    intro n o hd ho
    have c1 : ¬ (n : Int) < (a.size : Int) := by omega
    have e : a.data.toList.drop n = [] := List.drop_eq_nil_of_le (by rw [size_data]; omega)
    rw [e]
    have e2 : o ++ (⟨(xorB [] (b.data.toList.drop n)).toArray⟩ : ByteArray) = o := by
      apply str_same
      rw [ByteArray.data_append, Array.toList_append]
      simp [xorB]
    rw [e2]
    apply Ev.succ
    simp only [impl_xorBits.l0]
    exact Ev.cond (fun h' => absurd h' c1) (fun _ => Ev.now _)
  | succ d ih =>
    intro n o hd ho
    have hn : n < a.size := by omega
    have hn2 : n < b.size := by omega
    have c1 : (n : Int) < (a.size : Int) := by omega
    have c2 : (0 : Int) ≤ (n : Int) := by omega
    have c3 : (n : Int) < (b.size : Int) := by omega
    have e1 : impl_bitOf.f (bt a (n : Int) != bt b (n : Int)) = some (⟨#[if a[n] = b[n] then 48 else 49]⟩ : ByteArray) := by
      rw [bt_nat a n hn, bt_nat b n hn2]
      unfold impl_bitOf.f
      by_cases e : a[n] = b[n]
      · rw [if_pos e, e, bne_self_eq_false]; rfl
      · have e3 : (((a[n]).toNat : Int) != ((b[n]).toNat : Int)) = true := bne_iff_ne.2 (fun e4 => e (UInt8.toNat_inj.1 (by omega)))
        rw [if_neg e, e3]; rfl
    have hsz : (⟨#[if a[n] = b[n] then (48 : UInt8) else 49]⟩ : ByteArray).size = 1 := rfl
    have h3 := ih (n + 1) (o ++ (⟨#[if a[n] = b[n] then 48 else 49]⟩ : ByteArray)) (by omega) (by rw [ByteArray.size_append, hsz]; omega)
    have e5 : o ++ (⟨#[if a[n] = b[n] then 48 else 49]⟩ : ByteArray) ++ (⟨(xorB (a.data.toList.drop (n + 1)) (b.data.toList.drop (n + 1))).toArray⟩ : ByteArray) = o ++ (⟨(xorB (a.data.toList.drop n) (b.data.toList.drop n)).toArray⟩ : ByteArray) := by
      rw [drop_data hn, drop_data hn2]
      apply str_same
      simp only [xorB, ByteArray.data_append, Array.toList_append, List.append_assoc]
      rfl
    rw [e5] at h3
    apply Ev.succ
    simp only [impl_xorBits.l0]
    refine Ev.cond (fun _ => ?_) (fun h' => absurd c1 h')
    refine Ev.cond (fun _ => ?_) (fun h' => absurd c2 h')
    refine Ev.cond (fun _ => ?_) (fun h' => absurd c3 h')
    refine Ev.bind (Ev.const e1) ?_
    refine Ev.cond (fun _ => ?_) (fun h' => absurd (show o.size + (⟨#[if a[n] = b[n] then (48 : UInt8) else 49]⟩ : ByteArray).size ≤ 140737488355328 by rw [hsz]; omega) h')
    rw [w64_succ (show n < 9223372036854775807 by omega)]
    exact h3

/-! opp -/
/-- The other bit. -/
def flipU (c : UInt8) : UInt8 := if c = 49 then 48 else 49
/-- All bits changed. -/
def oppS (t : ByteArray) : ByteArray := ⟨(t.data.toList.map flipU).toArray⟩
theorem oppS_data (t : ByteArray) : (oppS t).data.toList = t.data.toList.map flipU := rfl
theorem oppS_size (t : ByteArray) : (oppS t).size = t.size := by rw [← size_data, oppS_data, List.length_map, size_data]
theorem oppS_bits (t : ByteArray) : (oppS t).data.toList.all isBitB = true := by
  rw [oppS_data, List.all_eq_true]
  intro c hc
  obtain ⟨b, _, rfl⟩ := List.mem_map.1 hc
  unfold flipU
  by_cases h : b = 49
  · rw [if_pos h]; rfl
  · rw [if_neg h]; rfl
theorem xorB_rep : ∀ l : List UInt8, xorB l (Lib.repeatL [49] l.length) = l.map flipU
  | [] => rfl
  | c :: l => by
    have ih := xorB_rep l
    show xorB (c :: l) (49 :: Lib.repeatL [49] l.length) = _
    rw [xorB, ih]; rfl
theorem opposite_ev (t : ByteArray) (h : t.size ≤ 1000) : Ev (fun k => impl_opposite.f k t) (oppS t) := by
  have hl : (Lib.repeatL [49] t.size).length = t.size := by rw [Lib.repeatL_length]; simp
  have hz : (⟨(Lib.repeatL [49] t.size).toArray⟩ : ByteArray).size = t.size := by rw [← size_data]; exact hl
  have e : strings_Repeat.f (⟨#[49]⟩ : ByteArray) (t.size : Int) = some ⟨(Lib.repeatL [49] t.size).toArray⟩ := by
    unfold strings_Repeat.f
    have c0 : (⟨#[49]⟩ : ByteArray).size = 1 := rfl
    rw [if_pos ⟨by omega, by omega, by rw [c0, Int.toNat_natCast]; omega⟩, Int.toNat_natCast]
  have h3 := xor_l0 t (⟨(Lib.repeatL [49] t.size).toArray⟩ : ByteArray) hz.symm (by omega) t.size 0 (⟨#[]⟩ : ByteArray) (by omega) (Nat.le_refl _)
  have e2 : (⟨#[]⟩ : ByteArray) ++ (⟨(xorB (t.data.toList.drop 0) ((⟨(Lib.repeatL [49] t.size).toArray⟩ : ByteArray).data.toList.drop 0)).toArray⟩ : ByteArray) = oppS t := by
    apply str_same
    rw [ByteArray.data_append, Array.toList_append, List.drop_zero, List.drop_zero, oppS_data, ← xorB_rep, size_data]; rfl
  rw [e2] at h3
  unfold impl_opposite.f impl_xorBits.f
  exact Ev.bind (Ev.const e) (Ev.bind h3 (Ev.now _))
theorem l03Other_l0 (t : ByteArray) (h : t.size ≤ 1099511627776) : ∀ d n (out : List Int), n + d = t.size → out.length ≤ n → Ev (fun k => spec_l03Other.l0 k t out (n : Int)) (strOfNums (out ++ (t.data.toList.drop n).map (fun c => (97 - (c.toNat : Int)) % 256))) := by
  intro d
  induction d with
  | zero =>
    intro n out hd ho
    have c1 : ¬ (n : Int) < (t.size : Int) := by omega
    rw [List.drop_eq_nil_of_le (by rw [size_data]; omega), List.map_nil, List.append_nil]
    apply Ev.succ
    simp only [spec_l03Other.l0]
    exact Ev.cond (fun h' => absurd h' c1) (fun _ => Ev.now _)
  | succ d ih =>
    intro n out hd ho
    have hl : n < t.size := by omega
    have c1 : (n : Int) < (t.size : Int) := by omega
    have c2 : (0 : Int) ≤ (n : Int) := by omega
    have c3 : out.length < 140737488355328 := by omega
    have h3 := ih (n + 1) (out ++ [(97 - (t[n].toNat : Int)) % 256]) (by omega) (by rw [List.length_append, List.length_singleton]; omega)
    rw [List.append_assoc, List.singleton_append] at h3
    rw [drop_data hl, List.map_cons]
    apply Ev.succ
    simp only [spec_l03Other.l0, w64_succ (show n < 9223372036854775807 by omega), bt_nat t n hl]
    refine Ev.cond (fun _ => ?_) (fun h' => absurd c1 h')
    refine Ev.cond (fun _ => ?_) (fun h' => absurd c2 h')
    exact Ev.cond (fun _ => h3) (fun h' => absurd c3 h')
theorem l03Other_ev (t : ByteArray) (h : t.size ≤ 1099511627776) (hb : t.data.toList.all isBitB = true) : Ev (fun k => spec_l03Other.f k t) (oppS t) := by
  have h3 := l03Other_l0 t h t.size 0 [] (by omega) (Nat.le_refl _)
  have e : strOfNums (([] : List Int) ++ (t.data.toList.drop 0).map (fun c => (97 - (c.toNat : Int)) % 256)) = oppS t := by
    apply str_same
    rw [oppS_data, List.drop_zero, List.nil_append]
    show List.map (fun n : Int => UInt8.ofNat n.toNat) (List.map (fun c : UInt8 => (97 - (c.toNat : Int)) % 256) t.data.toList) = _
    rw [List.map_map]
    apply List.map_congr_left
    intro c hc
    rcases bitU_of hb c hc with rfl | rfl <;> rfl
  rw [e] at h3
  exact h3

/-! szStringS -/
theorem szS_l0 (xs : List ByteArray) (hs : ∀ x ∈ xs, x.size ≤ 9223372036854775807) (hn : xs.length ≤ 1099511627776) : ∀ (d n : Nat) (left : Int), n + d = xs.length → 0 ≤ left → left ≤ 1048576 → ∃ v : Int, Ev (fun k => laws_szStringS.l0 k xs left (n : Int)) v ∧ (v = -1 ∨ (0 ≤ v ∧ v + (totS (xs.drop n) : Int) = left)) := by
  intro d
  induction d with
  | zero =>
    intro n left h h0 h1
    have c1 : ¬ (n : Int) < (xs.length : Int) := by omega
    refine ⟨left, ?_, .inr ⟨h0, ?_⟩⟩
    · apply Ev.succ
      simp only [laws_szStringS.l0]
      exact Ev.cond (fun h' => absurd h' c1) (fun _ => Ev.now _)
    · rw [List.drop_eq_nil_of_le (by omega)]
      simp [totS]
  | succ d ih =>
    intro n left h h0 h1
    have hl : n < xs.length := by omega
    have c1 : (n : Int) < (xs.length : Int) := by omega
    have c2 : (0 : Int) ≤ (n : Int) := by omega
    have hb := hs _ (sn_mem hl)
    have e : wrap64 (left - ((sn xs n).size : Int)) = left - ((sn xs n).size : Int) := w64 (by omega) (by omega)
    by_cases hc : left - ((sn xs n).size : Int) < 0
    · refine ⟨-1, ?_, .inl rfl⟩
      apply Ev.succ
      simp only [laws_szStringS.l0, sr_nat, e]
      refine Ev.cond (fun _ => ?_) (fun h' => absurd c1 h')
      refine Ev.cond (fun _ => ?_) (fun h' => absurd c2 h')
      exact Ev.cond (fun _ => Ev.now _) (fun h' => absurd hc h')
    · obtain ⟨v, hv, hp⟩ := ih (n + 1) (left - ((sn xs n).size : Int)) (by omega) (by omega) (by omega)
      refine ⟨v, ?_, ?_⟩
      · apply Ev.succ
        simp only [laws_szStringS.l0, sr_nat, e, w64_succ (show n < 9223372036854775807 by omega)]
        refine Ev.cond (fun _ => ?_) (fun h' => absurd c1 h')
        refine Ev.cond (fun _ => ?_) (fun h' => absurd c2 h')
        exact Ev.cond (fun h' => absurd h' hc) (fun _ => hv)
      · rcases hp with hp | ⟨hp, hq⟩
        · exact .inl hp
        · refine .inr ⟨hp, ?_⟩
          rw [drop_sn hl]
          unfold totS
          omega
theorem szS_ev (xs : List ByteArray) (hs : ∀ x ∈ xs, x.size ≤ maxLen) (hn : xs.length ≤ maxLen) (left : Int) (h0 : 0 ≤ left) (h1 : left ≤ 1048576) : ∃ v : Int, Ev (fun k => laws_szStringS.f k xs left) v ∧ (v = -1 ∨ (0 ≤ v ∧ v + (xs.length : Int) + (totS xs : Int) = left)) := by
  have hmx : maxLen ≤ 9223372036854775807 := by decide
  have e : wrap64 (left - (xs.length : Int)) = left - (xs.length : Int) := w64 (by omega) (by omega)
  unfold laws_szStringS.f
  simp only [e]
  by_cases hc : left - (xs.length : Int) < 0
  · exact ⟨-1, Ev.cond (fun _ => Ev.now _) (fun h' => absurd hc h'), .inl rfl⟩
  · obtain ⟨v, hv, hp⟩ := szS_l0 xs (fun x hx => Nat.le_trans (hs x hx) hmx) (by omega) xs.length 0 (left - (xs.length : Int)) (by omega) (by omega) (by omega)
    refine ⟨v, Ev.cond (fun h' => absurd h' hc) (fun _ => hv), ?_⟩
    rcases hp with hp | ⟨hp, hq⟩
    · exact .inl hp
    · rw [List.drop_zero] at hq
      exact .inr ⟨hp, by omega⟩

/-! toStringS -/
theorem toStringS_l0 (xs : List ByteArray) (hn : xs.length ≤ 1099511627776) : ∀ d n, n + d = xs.length → Ev (fun k => laws_toStringS.l0 k xs (xs.take n ++ List.replicate d (⟨#[]⟩ : ByteArray)) (n : Int)) xs := by
  intro d
  induction d with
  | zero =>
    intro n h
    have c1 : ¬ (n : Int) < (xs.length : Int) := by omega
    rw [List.take_of_length_le (by omega), List.replicate_zero, List.append_nil]
    apply Ev.succ
    simp only [laws_toStringS.l0]
    exact Ev.cond (fun h' => absurd h' c1) (fun _ => Ev.now _)
  | succ d ih =>
    intro n h
    have hl : n < xs.length := by omega
    have c1 : (n : Int) < (xs.length : Int) := by omega
    have c2 : (0 : Int) ≤ (n : Int) := by omega
    have h3 := ih (n + 1) (by omega)
    have c4 : (n : Int) < ((xs.take n ++ List.replicate (d + 1) (⟨#[]⟩ : ByteArray)).length : Int) := by
      simp only [List.length_append, List.length_take, List.length_replicate]; omega
    have h5 : (xs.take n ++ List.replicate (d + 1) (⟨#[]⟩ : ByteArray)).set n (sn xs n) = xs.take (n + 1) ++ List.replicate d (⟨#[]⟩ : ByteArray) := by
      rw [List.replicate_succ, set_mid _ _ _ _ _ (by rw [List.length_take]; omega), take_sn hl, List.append_assoc, List.singleton_append]
    apply Ev.succ
    simp only [laws_toStringS.l0, sr_nat, Int.toNat_natCast, h5, w64_succ (show n < 9223372036854775807 by omega)]
    refine Ev.cond (fun _ => ?_) (fun h' => absurd c1 h')
    refine Ev.cond (fun _ => ?_) (fun h' => absurd c2 h')
    exact Ev.cond (fun _ => h3) (fun h' => absurd c4 h')
theorem toStringS_ev (xs : List ByteArray) (hn : xs.length ≤ 1099511627776) : Ev (fun k => laws_toStringS.f k xs) xs := by
  have c1 : (0 : Int) ≤ (xs.length : Int) := by omega
  have c2 : xs.length ≤ 17592186044416 := by omega
  unfold laws_toStringS.f
  simp only [Int.toNat_natCast]
  refine Ev.cond (fun _ => ?_) (fun h' => absurd c1 h')
  exact Ev.cond (fun _ => toStringS_l0 xs hn xs.length 0 (by omega)) (fun h' => absurd c2 h')

/-! eqStringS -/
theorem eqStringS_l0 (xs ys : List ByteArray) (hl : xs.length = ys.length) (hn : xs.length ≤ 1099511627776) : ∀ d n, n + d = xs.length → Ev (fun k => laws_eqStringS.l0 k xs ys (n : Int)) (decide (xs.drop n = ys.drop n)) := by
  intro d
  induction d with
  | zero =>
    intro n h
    have c1 : ¬ (n : Int) < (xs.length : Int) := by omega
    rw [List.drop_eq_nil_of_le (show xs.length ≤ n by omega), List.drop_eq_nil_of_le (show ys.length ≤ n by omega), decide_eq_true rfl]
    apply Ev.succ
    simp only [laws_eqStringS.l0]
    exact Ev.cond (fun h' => absurd h' c1) (fun _ => Ev.now _)
  | succ d ih =>
    intro n h
    have c1 : (n : Int) < (xs.length : Int) := by omega
    have c2 : (0 : Int) ≤ (n : Int) := by omega
    have c3 : (n : Int) < (ys.length : Int) := by omega
    have h3 := ih (n + 1) (by omega)
    rw [drop_sn (show n < xs.length by omega), drop_sn (show n < ys.length by omega)]
    apply Ev.succ
    simp only [laws_eqStringS.l0, sr_nat, w64_succ (show n < 9223372036854775807 by omega), List.cons.injEq]
    refine Ev.cond (fun _ => ?_) (fun h' => absurd c1 h')
    refine Ev.cond (fun _ => ?_) (fun h' => absurd c2 h')
    refine Ev.cond (fun _ => ?_) (fun h' => absurd c3 h')
    by_cases hc : (sn xs n) = (sn ys n)
    · refine Ev.cond (fun _ => ?_) (fun h' => absurd (by rw [hc]) h')
      simp only [hc, true_and]; exact h3
    · refine Ev.cond (fun h' => absurd (bytes_ext h') hc) (fun _ => ?_)
      simp only [hc, false_and, decide_false]; exact Ev.now false
theorem eqStringS_ev (xs ys : List ByteArray) (hn : xs.length ≤ 1099511627776) : Ev (fun k => laws_eqStringS.f k xs ys) (decide (xs = ys)) := by
  unfold laws_eqStringS.f
  by_cases hl : xs.length = ys.length
  · have c1 : (xs.length : Int) = (ys.length : Int) := by omega
    exact Ev.cond (fun _ => eqStringS_l0 xs ys hl hn xs.length 0 (by omega)) (fun h' => absurd c1 h')
  · have c1 : ¬ (xs.length : Int) = (ys.length : Int) := by omega
    rw [decide_eq_false (fun h => hl (by rw [h]))]
    exact Ev.cond (fun h' => absurd h' c1) (fun _ => Ev.now false)
theorem eqStringS_same (xs : List ByteArray) (hn : xs.length ≤ 1099511627776) : Ev (fun k => laws_eqStringS.f k xs xs) true := by
  have h := eqStringS_ev xs xs hn
  rw [decide_eq_true rfl] at h
  exact h

/-! toInt64S -/
theorem toInt64S_l0 (xs : List Int) (hn : xs.length ≤ 1099511627776) : ∀ d n, n + d = xs.length → Ev (fun k => laws_toInt64S.l0 k xs (xs.take n ++ List.replicate d 0) (n : Int)) xs := by
  intro d
  induction d with
  | zero =>
    intro n h
    apply Ev.succ
    have h1 : ¬ ((n : Int) < (xs.length : Int)) := by omega
    have h2 : xs.take n = xs := List.take_of_length_le (by omega)
    simp only [laws_toInt64S.l0, h1, if_false, h2, List.replicate_zero, List.append_nil]
    exact Ev.now _
  | succ d ih =>
    intro n h
    apply Ev.succ
    have h1 : (n : Int) < (xs.length : Int) := by omega
    have h2 : (0 : Int) ≤ (n : Int) := by omega
    have h3 := ih (n + 1) (by omega)
    have h4 : (n : Int) < ((xs.take n ++ List.replicate (d + 1) (0 : Int)).length : Int) := by
      simp only [List.length_append, List.length_take, List.length_replicate]; omega
    have h5 : (xs.take n ++ List.replicate (d + 1) (0 : Int)).set n (rd xs (n : Int)) = xs.take (n + 1) ++ List.replicate d 0 := by
      rw [List.replicate_succ, set_mid _ _ _ _ _ (by rw [List.length_take]; omega), take_rd (show n < xs.length by omega)]
      simp
    simp only [laws_toInt64S.l0, h1, h2, h4, if_true, Int.toNat_natCast, h5, w64_succ (show n < 9223372036854775807 by omega)]
    exact h3
theorem toInt64S_ev (xs : List Int) (hn : xs.length ≤ 1099511627776) : Ev (fun k => laws_toInt64S.f k xs) xs := by
  unfold laws_toInt64S.f
  have h1 : (0 : Int) ≤ (xs.length : Int) := by omega
  have h2 : xs.length ≤ 35184372088832 := by omega
  simp only [h1, if_true, Int.toNat_natCast, h2]
  have h := toInt64S_l0 xs hn xs.length 0 (by omega)
  exact h

/-! eqInt64S -/
theorem eqInt64S_l0 (xs ys : List Int) (hl : xs.length = ys.length) (hn : xs.length ≤ 1099511627776) : ∀ d n, n + d = xs.length → Ev (fun k => laws_eqInt64S.l0 k xs ys (n : Int)) (decide (xs.drop n = ys.drop n)) := by
  intro d
  induction d with
  | zero =>
    intro n h
    apply Ev.succ
    have h1 : ¬ ((n : Int) < (xs.length : Int)) := by omega
    have h2 : xs.drop n = [] := List.drop_eq_nil_of_le (by omega)
    have h3 : ys.drop n = [] := List.drop_eq_nil_of_le (by omega)
    simp only [laws_eqInt64S.l0, h1, if_false, h2, h3, decide_true]
    exact Ev.now true
  | succ d ih =>
    intro n h
    apply Ev.succ
    have h1 : (n : Int) < (xs.length : Int) := by omega
    have h1' : (n : Int) < (ys.length : Int) := by omega
    have h2 : (0 : Int) ≤ (n : Int) := by omega
    have h3 := ih (n + 1) (by omega)
    rw [drop_rd (show n < xs.length by omega), drop_rd (show n < ys.length by omega)]
    simp only [laws_eqInt64S.l0, h1, h1', h2, if_true, w64_succ (show n < 9223372036854775807 by omega), List.cons.injEq]
    by_cases hc : rd xs (n : Int) = rd ys (n : Int)
    · simp only [hc, if_true, true_and]; exact h3
    · simp only [hc, if_false, false_and, decide_false]; exact Ev.now false
theorem eqInt64S_ev (xs ys : List Int) (hn : xs.length ≤ 1099511627776) : Ev (fun k => laws_eqInt64S.f k xs ys) (decide (xs = ys)) := by
  unfold laws_eqInt64S.f
  by_cases hl : xs.length = ys.length
  · have h1 : (xs.length : Int) = (ys.length : Int) := by omega
    simp only [h1, if_true]
    have h := eqInt64S_l0 xs ys hl hn xs.length 0 (by omega)
    exact h
  · have h1 : ¬ (xs.length : Int) = (ys.length : Int) := by omega
    have h2 : ¬ xs = ys := fun h => hl (by rw [h])
    simp only [h1, if_false, h2, decide_false]
    exact Ev.now false
theorem eqInt64S_same (xs : List Int) (hn : xs.length ≤ 1099511627776) : Ev (fun k => laws_eqInt64S.f k xs xs) true := by
  have h := eqInt64S_ev xs xs hn
  rw [decide_eq_true rfl] at h
  exact h

/-! within -/
theorem within_eq (a b c : Int) : impl_within.f a b c = some (decide (b ≤ a ∧ a ≤ c)) := by
  unfold impl_within.f
  by_cases h : b ≤ a
  · simp [h, ge_iff_le]
  · simp [h, ge_iff_le]

/-! l00In -/
theorem l00In_eq (a b c : Int) : spec_l00In.f a b c = some (decide (b ≤ a ∧ a ≤ c)) := by
  unfold spec_l00In.f
  by_cases h : b ≤ a
  · simp [h, ge_iff_le]
  · simp [h, ge_iff_le]

/-! areIn -/
theorem areIn_l0 (lo hi : Int) (xs : List Int) (hn : xs.length ≤ 1099511627776) : ∀ d n, n + d = xs.length → Ev (fun k => impl_areIn.l0 k lo hi xs (xs.length : Int) (n : Int)) (inAll lo hi (xs.drop n)) := by
  intro d
  induction d with
  | zero =>
    intro n h
    apply Ev.succ
    have h1 : ¬ ((n : Int) < (xs.length : Int)) := by omega
    have h2 : xs.drop n = [] := List.drop_eq_nil_of_le (by omega)
    simp only [impl_areIn.l0, h1, if_false, h2]
    exact Ev.now true
  | succ d ih =>
    intro n h
    apply Ev.succ
    have h1 : (n : Int) < (xs.length : Int) := by omega
    have h2 : (0 : Int) ≤ (n : Int) := by omega
    have h3 := ih (n + 1) (by omega)
    rw [drop_rd (show n < xs.length by omega), inAll_cons]
    simp only [impl_areIn.l0, h1, h2, if_true, within_eq, Option.bind_some, w64_succ (show n < 9223372036854775807 by omega)]
    by_cases hc : lo ≤ rd xs (n : Int) ∧ rd xs (n : Int) ≤ hi
    · simp only [hc, decide_true, if_true, Bool.true_and, and_self]; exact h3
    · simp only [hc, decide_false, Bool.false_and, Bool.false_eq_true, if_false]; exact Ev.now false
theorem areIn_ev (lo hi : Int) (xs : List Int) (hn : xs.length ≤ 1099511627776) : Ev (fun k => impl_areIn.f k xs lo hi) (inAll lo hi xs) := by
  have h := areIn_l0 lo hi xs hn xs.length 0 (by omega)
  exact h

abbrev FlR := Int × Int × Bool
/-- How many symbols are lost. -/
def flN (sent got : Nat → Bool) : List Nat → Int → FlR
  | [], _ => (0, 0, false)
  | b :: r, c => if sent b = true then (if got b = true then (c + 1, (b : Int), true) else flN sent got r (c + 1)) else flN sent got r c
/-- The bits with one changed. -/
def bent (T : ByteArray) (a : Nat) : ByteArray := (T.extract 0 a ++ oppS (sb T a)) ++ T.extract (a + 1) T.size
theorem bent_size {T : ByteArray} {a : Nat} (h : a < T.size) : (bent T a).size = T.size := by
  unfold bent
  rw [ByteArray.size_append, ByteArray.size_append, ByteArray.size_extract, ByteArray.size_extract, oppS_size, sb_size h]; omega
theorem sb_bits {T : ByteArray} {a : Nat} (hb : T.data.toList.all isBitB = true) : (sb T a).data.toList.all isBitB = true := by
  unfold sb
  rw [List.all_eq_true] at hb ⊢
  intro c hc
  rw [ByteArray.data_extract, Array.toList_extract] at hc
  exact hb c (List.mem_of_mem_drop (List.mem_of_mem_take hc))
/-- Words one behind another. -/
def catS (ws : List ByteArray) : List Int → ByteArray → ByteArray
  | [], a => a
  | y :: r, a => catS ws r (a ++ sn ws y.toNat)
theorem sr_int (xs : List ByteArray) (z : Int) : rdOf ByteArray.empty xs z = sn xs z.toNat := rfl
theorem catS_size (ws : List ByteArray) (h : ∀ i, (sn ws i).size ≤ 12) : ∀ (l : List Int) (a : ByteArray), (catS ws l a).size ≤ a.size + 12 * l.length
  | [], a => Nat.le_refl _
  | y :: r, a => by
    have ih := catS_size ws h r (a ++ sn ws y.toNat)
    rw [ByteArray.size_append] at ih
    have := h y.toNat
    show (catS ws r (a ++ sn ws y.toNat)).size ≤ _
    rw [List.length_cons]; omega
theorem catS_bits (ws : List ByteArray) (h : codeB ws = true) : ∀ (l : List Int) (a : ByteArray), (∀ y ∈ l, 0 ≤ y ∧ y ≤ (ws.length : Int) - 1) → a.data.toList.all isBitB = true → (catS ws l a).data.toList.all isBitB = true
  | [], a, _, ha => ha
  | y :: r, a, hl, ha => by
    have hy := hl y List.mem_cons_self
    refine catS_bits ws h r _ (fun z hz => hl z (List.mem_cons_of_mem _ hz)) ?_
    rw [ByteArray.data_append, Array.toList_append, List.all_append, ha, (codeB_at h (show y.toNat < ws.length by omega)).2.1]; rfl
/-- The answer for the bits. -/
def finR (ws : List ByteArray) (at_ : Int) (T : ByteArray) : FlR :=
  if T.size ≤ 400 ∧ 0 ≤ at_ ∧ at_ ≤ (T.size : Int) - 1 then flN (endAt ws T) (endAt ws (bent T at_.toNat)) (List.range' (at_.toNat + 1) (T.size - at_.toNat)) 0 else (0, 0, false)
/-- The program's last loop. -/
theorem flI_l1 (sent got : Nat → Bool) (T : ByteArray) (hT : T.size ≤ 400) : ∀ d b (c : Int), 1 ≤ b → b + d = T.size + 1 → 0 ≤ c → c + (d : Int) ≤ 1000 →
    Ev (fun k => impl_FlipLoss.l1 k T (true :: (List.range' 1 T.size).map sent) (true :: (List.range' 1 T.size).map got) c (b : Int)) (flN sent got (List.range' b d) c) := by
  intro d
  induction d with
  | zero =>
    intro b c h1 h hc hd
    have c1 : ¬ (b : Int) ≤ (T.size : Int) := by omega
    apply Ev.succ
    simp only [impl_FlipLoss.l1]
    exact Ev.cond (fun h' => absurd h' c1) (fun _ => Ev.now _)
  | succ d ih =>
    intro b c h1 h hc hd
    have c1 : (b : Int) ≤ (T.size : Int) := by omega
    have c2 : (0 : Int) ≤ (b : Int) := by omega
    have c3 : ∀ f : Nat → Bool, (b : Int) < ((true :: (List.range' 1 T.size).map f).length : Int) := fun f => by rw [List.length_cons, List.length_map, List.length_range']; omega
    have e : wrap64 (c + 1) = c + 1 := w64 (by omega) (by omega)
    have h3 := ih (b + 1) (c + 1) (by omega) (by omega) (by omega) (by omega)
    have h4 := ih (b + 1) c (by omega) (by omega) (by omega) (by omega)
    rw [show List.range' b (d + 1) = b :: List.range' (b + 1) d from rfl]
    unfold flN
    apply Ev.succ
    simp only [impl_FlipLoss.l1, endsI_rd sent T.size b h1 (by omega), endsI_rd got T.size b h1 (by omega), e, w64_succ (show b < 9223372036854775807 by omega)]
    refine Ev.cond (fun _ => ?_) (fun h' => absurd c1 h')
    refine Ev.cond (fun _ => ?_) (fun h' => absurd c2 h')
    refine Ev.cond (fun _ => ?_) (fun h' => absurd (c3 sent) h')
    rcases sent b with _ | _
    · exact Ev.cond (fun h' => absurd h' (by decide)) (fun _ => h4)
    refine Ev.cond (fun _ => ?_) (fun h' => absurd rfl h')
    refine Ev.cond (fun _ => ?_) (fun h' => absurd (c3 got) h')
    rcases got b with _ | _
    · exact Ev.cond (fun h' => absurd h' (by decide)) (fun _ => h3)
    · exact Ev.cond (fun _ => Ev.now _) (fun h' => absurd rfl h')
theorem has_l0 (xs : List Int) (z : Int) (hn : xs.length ≤ 1099511627776) : ∀ d n, n + d = xs.length → Ev (fun k => spec_l00Has.l0 k xs z (n : Int)) (decide (z ∈ xs.drop n)) := by
  intro d
  induction d with
  | zero =>
    intro n h
    have c1 : ¬ (n : Int) < (xs.length : Int) := by omega
    rw [List.drop_eq_nil_of_le (by omega)]
    apply Ev.succ
    simp only [spec_l00Has.l0]
    exact Ev.cond (fun h' => absurd h' c1) (fun _ => Ev.now _)
  | succ d ih =>
    intro n h
    have hl : n < xs.length := by omega
    have c1 : (n : Int) < (xs.length : Int) := by omega
    have c2 : (0 : Int) ≤ (n : Int) := by omega
    have h3 := ih (n + 1) (by omega)
    rw [drop_rd hl]
    apply Ev.succ
    simp only [spec_l00Has.l0, w64_succ (show n < 9223372036854775807 by omega)]
    refine Ev.cond (fun _ => ?_) (fun h' => absurd c1 h')
    refine Ev.cond (fun _ => ?_) (fun h' => absurd c2 h')
    refine Ev.cond (fun h1 => ?_) (fun h1 => ?_)
    · rw [decide_eq_true (show z ∈ rd xs (n : Int) :: xs.drop (n + 1) by rw [h1]; exact List.mem_cons_self)]
      exact Ev.now _
    · have e : decide (z ∈ rd xs (n : Int) :: xs.drop (n + 1)) = decide (z ∈ xs.drop (n + 1)) := decide_eq_decide.2 (by rw [List.mem_cons]; exact ⟨fun h2 => by rcases h2 with h2 | h2; exact absurd h2.symm h1; exact h2, fun h2 => .inr h2⟩)
      rw [e]; exact h3
theorem has_ev (xs : List Int) (z : Int) (hn : xs.length ≤ 1099511627776) : Ev (fun k => spec_l00Has.f k xs z) (decide (z ∈ xs)) := by
  have h := has_l0 xs z hn xs.length 0 (by omega)
  rw [List.drop_zero] at h
  exact h
theorem ownL_mem (ws : List ByteArray) (s : ByteArray) (b : Nat) (h1 : 1 ≤ b) (h2 : b ≤ s.size) : decide ((b : Int) ∈ ownL ws s 1 s.size) = endAt ws s b := by
  rw [Bool.eq_iff_iff, decide_eq_true_iff]
  unfold ownL
  constructor
  · intro h
    obtain ⟨c, hc, e⟩ := List.mem_map.1 h
    obtain rfl : c = b := by omega
    exact (List.mem_filter.1 hc).2
  · intro h
    exact List.mem_map.2 ⟨b, List.mem_filter.2 ⟨List.mem_range'_1.2 ⟨h1, by omega⟩, h⟩, rfl⟩
theorem ownL_length (ws : List ByteArray) (s : ByteArray) (n d : Nat) : (ownL ws s n d).length ≤ d := by
  unfold ownL
  rw [List.length_map]
  exact Nat.le_trans (List.length_filter_le _ _) (by rw [List.length_range']; exact Nat.le_refl _)
/-- The reference's last loop: the words' ends one after another. -/
theorem flS_l1 (ws : List ByteArray) (T B : ByteArray) (hT : T.size ≤ 400) (hB : B.size = T.size) (a : Nat) : ∀ d b (c : Int) (pr : List Int), b + d = T.size + 1 → 0 ≤ c → c + (d : Int) ≤ 1000 → pr.length < b →
    Ev (fun k => spec_FlipLoss.l1 k (a : Int) (pr ++ ownL ws T b d) (ownL ws B 1 B.size) c (pr.length : Int)) (flN (endAt ws T) (endAt ws B) (List.range' (max b (a + 1)) (T.size + 1 - max b (a + 1))) c) := by
  intro d
  induction d with
  | zero =>
    intro b c pr h hc hd hp
    have e0 : ownL ws T b 0 = [] := rfl
    have c1 : ¬ (pr.length : Int) < ((pr ++ ownL ws T b 0).length : Int) := by rw [e0, List.append_nil]; omega
    rw [show T.size + 1 - max b (a + 1) = 0 by omega]
    apply Ev.succ
    simp only [spec_FlipLoss.l1]
    exact Ev.cond (fun h' => absurd h' c1) (fun _ => Ev.now _)
  | succ d ih =>
    intro b c pr h hc hd hp
    rw [ownL_succ]
    by_cases he : endAt ws T b = true
    · rw [if_pos he]
      have c1 : (pr.length : Int) < ((pr ++ (b : Int) :: ownL ws T (b + 1) d).length : Int) := by rw [List.length_append, List.length_cons]; omega
      have c2 : (0 : Int) ≤ (pr.length : Int) := by omega
      have er : rd (pr ++ (b : Int) :: ownL ws T (b + 1) d) (pr.length : Int) = (b : Int) := by
        rw [rd_nat, List.getD_eq_getElem?_getD, List.getElem?_append_right (Nat.le_refl _), Nat.sub_self]; rfl
      have e : wrap64 (c + 1) = c + 1 := w64 (by omega) (by omega)
      have ew : wrap64 ((pr.length : Int) + 1) = ((pr ++ [(b : Int)]).length : Int) := by rw [w64 (by omega) (by omega), List.length_append, List.length_singleton]; omega
      have ea : pr ++ (b : Int) :: ownL ws T (b + 1) d = (pr ++ [(b : Int)]) ++ ownL ws T (b + 1) d := by rw [List.append_assoc, List.singleton_append]
      have hpl : (pr ++ [(b : Int)]).length < b + 1 := by rw [List.length_append, List.length_singleton]; omega
      by_cases hba : b ≤ a
      · have c3 : (b : Int) ≤ (a : Int) := by omega
        have h3 := ih (b + 1) c (pr ++ [(b : Int)]) (by omega) hc (by omega) hpl
        rw [show max (b + 1) (a + 1) = max b (a + 1) by omega, ← ea] at h3
        apply Ev.succ
        simp only [spec_FlipLoss.l1, er, ew]
        refine Ev.cond (fun _ => ?_) (fun h' => absurd c1 h')
        refine Ev.cond (fun _ => ?_) (fun h' => absurd c2 h')
        exact Ev.cond (fun _ => h3) (fun h' => absurd c3 h')
      · have c3 : ¬ (b : Int) ≤ (a : Int) := by omega
        have h3 := ih (b + 1) (c + 1) (pr ++ [(b : Int)]) (by omega) (by omega) (by omega) hpl
        rw [show max (b + 1) (a + 1) = b + 1 by omega, show T.size + 1 - (b + 1) = d by omega, ← ea] at h3
        rw [show max b (a + 1) = b by omega, show T.size + 1 - b = d + 1 by omega, show List.range' b (d + 1) = b :: List.range' (b + 1) d from rfl]
        unfold flN
        rw [if_pos he]
        have hh := has_ev (ownL ws B 1 B.size) (b : Int) (Nat.le_trans (ownL_length ws B 1 B.size) (by omega))
        rw [ownL_mem ws B b (by omega) (by omega)] at hh
        apply Ev.succ
        simp only [spec_FlipLoss.l1, er, ew, e]
        refine Ev.cond (fun _ => ?_) (fun h' => absurd c1 h')
        refine Ev.cond (fun _ => ?_) (fun h' => absurd c2 h')
        refine Ev.cond (fun h' => absurd h' c3) (fun _ => ?_)
        refine Ev.bind hh ?_
        rcases endAt ws B b with _ | _
        · exact Ev.cond (fun h' => absurd h' (by decide)) (fun _ => h3)
        · exact Ev.cond (fun _ => Ev.now _) (fun h' => absurd rfl h')
    · rw [if_neg he]
      have h3 := ih (b + 1) c pr (by omega) hc (by omega) (by omega)
      by_cases hba : b ≤ a
      · rw [show max (b + 1) (a + 1) = max b (a + 1) by omega] at h3
        exact h3
      · rw [show max (b + 1) (a + 1) = b + 1 by omega, show T.size + 1 - (b + 1) = d by omega] at h3
        rw [show max b (a + 1) = b by omega, show T.size + 1 - b = d + 1 by omega, show List.range' b (d + 1) = b :: List.range' (b + 1) d from rfl]
        unfold flN
        rw [if_neg he]
        exact h3
/-- The program, with the bits. -/
theorem flI_fin (ws : List ByteArray) (hn : ws.length ≤ 1000) (T : ByteArray) (hz : T.size ≤ 10000) (hb : T.data.toList.all isBitB = true) (z : Int) (h1 : -9223372036854775808 ≤ z) (h2 : z ≤ 9223372036854775807) :
    Ev (fun k => if (T.size : Int) > 400 then (impl_FlipLoss.j2 k ws z T true) else ((impl_within.f z 0 (wrap64 ((T.size : Int) - 1))).bind fun t => (impl_FlipLoss.j2 k ws z T (!t)))) (finR ws z T) := by
  have no : Ev (fun k => impl_FlipLoss.j2 k ws z T true) (0, 0, false) := by
    apply Ev.succ
    simp only [impl_FlipLoss.j2]
    exact Ev.cond (fun _ => Ev.now _) (fun h' => absurd (by trivial) h')
  have e : wrap64 ((T.size : Int) - 1) = (T.size : Int) - 1 := w64 (by omega) (by omega)
  unfold finR
  by_cases h4 : T.size ≤ 400
  · have c1 : ¬ (T.size : Int) > 400 := by omega
    refine Ev.cond (fun h' => absurd h' c1) (fun _ => ?_)
    rw [e]
    refine Ev.bind (Ev.const (within_eq _ _ _)) ?_
    by_cases hz0 : 0 ≤ z ∧ z ≤ (T.size : Int) - 1
    · rw [if_pos ⟨h4, hz0.1, hz0.2⟩, decide_eq_true hz0]
      obtain ⟨a, rfl⟩ := Int.eq_ofNat_of_zero_le hz0.1
      have ha : a < T.size := by omega
      have hsz := sb_size ha
      have eo := oppS_size (sb T a)
      have x0 : (T.extract 0 a).size = a := by rw [ByteArray.size_extract]; omega
      have x1 : (T.extract 0 a ++ oppS (sb T a)).size = a + 1 := by rw [ByteArray.size_append, x0, eo, hsz]
      have x2 : (T.extract (a + 1) T.size).size = T.size - (a + 1) := by rw [ByteArray.size_extract]; omega
      have c2 : (0 : Int) ≤ (a : Int) := by omega
      have c3 : (a : Int) ≤ (T.size : Int) := by omega
      have c4 : (a : Int) ≤ ((a + 1 : Nat) : Int) := by omega
      have c5 : ((a + 1 : Nat) : Int) ≤ (T.size : Int) := by omega
      have c6 : (T.extract 0 a).size + (oppS (sb T a)).size ≤ 9223372036854775807 := by rw [x0, eo, hsz]; omega
      have c7 : (0 : Int) ≤ ((a + 1 : Nat) : Int) := by omega
      have c8 : (T.extract 0 a ++ oppS (sb T a)).size + (T.extract (a + 1) T.size).size ≤ 9223372036854775807 := by rw [x1, x2]; omega
      have hop : Ev (fun k => impl_opposite.f k (T.extract a (a + 1))) (oppS (sb T a)) := opposite_ev (sb T a) (by rw [hsz]; omega)
      have hen := endsI_ev ws (by omega) T (by omega)
      have heb : Ev (fun k => impl_ends.f k ws ((T.extract 0 a ++ oppS (sb T a)) ++ T.extract (a + 1) T.size)) (true :: (List.range' 1 T.size).map (endAt ws (bent T a))) := by
        have := endsI_ev ws (by omega) (bent T a) (by rw [bent_size ha]; omega)
        rw [bent_size ha] at this
        exact this
      have hl := flI_l1 (endAt ws T) (endAt ws (bent T a)) T h4 (T.size - a) (a + 1) 0 (by omega) (by omega) (Int.le_refl 0) (by omega)
      show Ev (fun k => impl_FlipLoss.j2 k ws (a : Int) T false) (flN (endAt ws T) (endAt ws (bent T a)) (List.range' (a + 1) (T.size - a)) 0)
      apply Ev.succ
      simp only [impl_FlipLoss.j2, w64_succ (show a < 9223372036854775807 by omega), Int.toNat_natCast]
      refine Ev.cond (fun h' => absurd h' (by decide)) (fun _ => ?_)
      refine Ev.bind hen ?_
      refine Ev.cond (fun _ => ?_) (fun h' => absurd c2 h')
      refine Ev.cond (fun _ => ?_) (fun h' => absurd c3 h')
      refine Ev.cond (fun _ => ?_) (fun h' => absurd c4 h')
      refine Ev.cond (fun _ => ?_) (fun h' => absurd c5 h')
      refine Ev.bind hop ?_
      refine Ev.cond (fun _ => ?_) (fun h' => absurd c6 h')
      refine Ev.cond (fun _ => ?_) (fun h' => absurd c7 h')
      refine Ev.cond (fun _ => ?_) (fun h' => absurd c8 h')
      exact Ev.bind heb hl
    · rw [if_neg (fun h => hz0 h.2), decide_eq_false hz0]
      exact no
  · have c1 : (T.size : Int) > 400 := by omega
    rw [if_neg (fun h => h4 h.1)]
    exact Ev.cond (fun _ => no) (fun h' => absurd c1 h')
/-- The reference, with the bits. -/
theorem flS_fin (ws : List ByteArray) (hn : ws.length ≤ 1000) (T : ByteArray) (hz : T.size ≤ 10000) (hb : T.data.toList.all isBitB = true) (z : Int) (h1 : -9223372036854775808 ≤ z) (h2 : z ≤ 9223372036854775807) :
    Ev (fun k => if (T.size : Int) > 400 then (spec_FlipLoss.j2 k ws z T true) else ((spec_l00In.f z 0 (wrap64 ((T.size : Int) - 1))).bind fun t => (spec_FlipLoss.j2 k ws z T (!t)))) (finR ws z T) := by
  have no : Ev (fun k => spec_FlipLoss.j2 k ws z T true) (0, 0, false) := by
    apply Ev.succ
    simp only [spec_FlipLoss.j2]
    exact Ev.cond (fun _ => Ev.now _) (fun h' => absurd (by trivial) h')
  have e : wrap64 ((T.size : Int) - 1) = (T.size : Int) - 1 := w64 (by omega) (by omega)
  unfold finR
  by_cases h4 : T.size ≤ 400
  · have c1 : ¬ (T.size : Int) > 400 := by omega
    refine Ev.cond (fun h' => absurd h' c1) (fun _ => ?_)
    rw [e]
    refine Ev.bind (Ev.const (l00In_eq _ _ _)) ?_
    by_cases hz0 : 0 ≤ z ∧ z ≤ (T.size : Int) - 1
    · rw [if_pos ⟨h4, hz0.1, hz0.2⟩, decide_eq_true hz0]
      obtain ⟨a, rfl⟩ := Int.eq_ofNat_of_zero_le hz0.1
      have ha : a < T.size := by omega
      have hsz := sb_size ha
      have eo := oppS_size (sb T a)
      have x0 : (T.extract 0 a).size = a := by rw [ByteArray.size_extract]; omega
      have x1 : (T.extract 0 a ++ oppS (sb T a)).size = a + 1 := by rw [ByteArray.size_append, x0, eo, hsz]
      have x2 : (T.extract (a + 1) T.size).size = T.size - (a + 1) := by rw [ByteArray.size_extract]; omega
      have c2 : (0 : Int) ≤ (a : Int) := by omega
      have c3 : (a : Int) ≤ (T.size : Int) := by omega
      have c4 : (a : Int) ≤ ((a + 1 : Nat) : Int) := by omega
      have c5 : ((a + 1 : Nat) : Int) ≤ (T.size : Int) := by omega
      have c6 : (T.extract 0 a).size + (oppS (sb T a)).size ≤ 9223372036854775807 := by rw [x0, eo, hsz]; omega
      have c7 : (0 : Int) ≤ ((a + 1 : Nat) : Int) := by omega
      have c8 : (T.extract 0 a ++ oppS (sb T a)).size + (T.extract (a + 1) T.size).size ≤ 9223372036854775807 := by rw [x1, x2]; omega
      have hop : Ev (fun k => spec_l03Other.f k (T.extract a (a + 1))) (oppS (sb T a)) := l03Other_ev (sb T a) (by rw [hsz]; omega) (sb_bits hb)
      have hen := l05Ends_ev ws (by omega) T (by omega)
      have heb : Ev (fun k => spec_l05Ends.f k ws ((T.extract 0 a ++ oppS (sb T a)) ++ T.extract (a + 1) T.size)) (ownL ws (bent T a) 1 (bent T a).size) := l05Ends_ev ws (by omega) (bent T a) (by rw [bent_size ha]; omega)
      have hl := flS_l1 ws T (bent T a) h4 (bent_size ha) a T.size 1 0 [] (by omega) (Int.le_refl 0) (by omega) (by decide)
      rw [show max 1 (a + 1) = a + 1 by omega, show T.size + 1 - (a + 1) = T.size - a by omega, List.nil_append] at hl
      show Ev (fun k => spec_FlipLoss.j2 k ws (a : Int) T false) (flN (endAt ws T) (endAt ws (bent T a)) (List.range' (a + 1) (T.size - a)) 0)
      apply Ev.succ
      simp only [spec_FlipLoss.j2, w64_succ (show a < 9223372036854775807 by omega), Int.toNat_natCast]
      refine Ev.cond (fun h' => absurd h' (by decide)) (fun _ => ?_)
      refine Ev.bind hen ?_
      refine Ev.cond (fun _ => ?_) (fun h' => absurd c2 h')
      refine Ev.cond (fun _ => ?_) (fun h' => absurd c3 h')
      refine Ev.cond (fun _ => ?_) (fun h' => absurd c4 h')
      refine Ev.cond (fun _ => ?_) (fun h' => absurd c5 h')
      refine Ev.bind hop ?_
      refine Ev.cond (fun _ => ?_) (fun h' => absurd c6 h')
      refine Ev.cond (fun _ => ?_) (fun h' => absurd c7 h')
      refine Ev.cond (fun _ => ?_) (fun h' => absurd c8 h')
      exact Ev.bind heb hl
    · rw [if_neg (fun h => hz0 h.2), decide_eq_false hz0]
      exact no
  · have c1 : (T.size : Int) > 400 := by omega
    rw [if_neg (fun h => h4 h.1)]
    exact Ev.cond (fun _ => no) (fun h' => absurd c1 h')
theorem sn_len (ws : List ByteArray) (h : ∀ i, (sn ws i).size ≤ 12) (z : Int) : (rdOf ByteArray.empty ws z).size ≤ 12 := h z.toNat
/-- The program joins words. -/
theorem flI_l0 (ws : List ByteArray) (hc : codeB ws = true) (sy : List Int) (hy : sy.length ≤ 400) (hin : ∀ y ∈ sy, 0 ≤ y ∧ y ≤ (ws.length : Int) - 1) (z : Int) (h1 : -9223372036854775808 ≤ z) (h2 : z ≤ 9223372036854775807) :
    ∀ d n (a : ByteArray), n + d = sy.length → a.size ≤ 12 * n → a.data.toList.all isBitB = true → Ev (fun k => impl_FlipLoss.l0 k ws z a sy (sy.length : Int) (n : Int)) (finR ws z (catS ws (sy.drop n) a)) := by
  obtain ⟨hl1, hl2⟩ := codeB_len hc
  intro d
  induction d with
  | zero =>
    intro n a h ha hb
    have c1 : ¬ (n : Int) < (sy.length : Int) := by omega
    rw [List.drop_eq_nil_of_le (by omega)]
    apply Ev.succ
    simp only [impl_FlipLoss.l0]
    exact Ev.cond (fun h' => absurd h' c1) (fun _ => flI_fin ws (by omega) a (by omega) hb z h1 h2)
  | succ d ih =>
    intro n a h ha hb
    have hn : n < sy.length := by omega
    have c1 : (n : Int) < (sy.length : Int) := by omega
    have c2 : (0 : Int) ≤ (n : Int) := by omega
    have hm := hin _ (rd_mem hn)
    have c3 : rd sy (n : Int) < (ws.length : Int) := by omega
    have hs := codeB_size hc (rd sy (n : Int)).toNat
    have c4 : a.size + (rdOf ByteArray.empty ws (rd sy (n : Int))).size ≤ 9223372036854775807 := by rw [sr_int]; omega
    have h3 := ih (n + 1) (a ++ sn ws (rd sy (n : Int)).toNat) (by omega) (by rw [ByteArray.size_append]; omega) (by
      rw [ByteArray.data_append, Array.toList_append, List.all_append, hb, (codeB_at hc (show (rd sy (n : Int)).toNat < ws.length by omega)).2.1]; rfl)
    rw [drop_rd hn]
    unfold catS
    apply Ev.succ
    simp only [impl_FlipLoss.l0, w64_succ (show n < 9223372036854775807 by omega)]
    refine Ev.cond (fun _ => ?_) (fun h' => absurd c1 h')
    refine Ev.cond (fun _ => ?_) (fun h' => absurd c2 h')
    refine Ev.cond (fun _ => ?_) (fun h' => absurd c1 h')
    refine Ev.cond (fun _ => ?_) (fun h' => absurd hm.1 h')
    refine Ev.cond (fun _ => ?_) (fun h' => absurd c3 h')
    exact Ev.cond (fun _ => h3) (fun h' => absurd c4 h')
/-- The reference joins words, if all symbols are some. -/
theorem flS_l0 (ws : List ByteArray) (hc : codeB ws = true) (sy : List Int) (hy : sy.length ≤ 400) (z : Int) (h1 : -9223372036854775808 ≤ z) (h2 : z ≤ 9223372036854775807) :
    ∀ d n (a : ByteArray), n + d = sy.length → a.size ≤ 12 * n → a.data.toList.all isBitB = true → Ev (fun k => spec_FlipLoss.l0 k ws sy z a (n : Int)) (if inAll 0 ((ws.length : Int) - 1) (sy.drop n) = true then finR ws z (catS ws (sy.drop n) a) else (0, 0, false)) := by
  obtain ⟨hl1, hl2⟩ := codeB_len hc
  have ew : wrap64 ((ws.length : Int) - 1) = (ws.length : Int) - 1 := w64 (by omega) (by omega)
  intro d
  induction d with
  | zero =>
    intro n a h ha hb
    have c1 : ¬ (n : Int) < (sy.length : Int) := by omega
    rw [List.drop_eq_nil_of_le (by omega), if_pos (show inAll 0 ((ws.length : Int) - 1) [] = true from rfl)]
    apply Ev.succ
    simp only [spec_FlipLoss.l0]
    exact Ev.cond (fun h' => absurd h' c1) (fun _ => flS_fin ws (by omega) a (by omega) hb z h1 h2)
  | succ d ih =>
    intro n a h ha hb
    have hn : n < sy.length := by omega
    have c1 : (n : Int) < (sy.length : Int) := by omega
    have c2 : (0 : Int) ≤ (n : Int) := by omega
    rw [drop_rd hn, inAll_cons]
    unfold catS
    apply Ev.succ
    simp only [spec_FlipLoss.l0, w64_succ (show n < 9223372036854775807 by omega), ew]
    refine Ev.cond (fun _ => ?_) (fun h' => absurd c1 h')
    refine Ev.cond (fun _ => ?_) (fun h' => absurd c2 h')
    refine Ev.bind (Ev.const (l00In_eq _ _ _)) ?_
    by_cases hm : 0 ≤ rd sy (n : Int) ∧ rd sy (n : Int) ≤ (ws.length : Int) - 1
    · rw [decide_eq_true hm, Bool.true_and]
      have c3 : rd sy (n : Int) < (ws.length : Int) := by omega
      have hs := codeB_size hc (rd sy (n : Int)).toNat
      have c4 : a.size + (rdOf ByteArray.empty ws (rd sy (n : Int))).size ≤ 9223372036854775807 := by rw [sr_int]; omega
      have h3 := ih (n + 1) (a ++ sn ws (rd sy (n : Int)).toNat) (by omega) (by rw [ByteArray.size_append]; omega) (by
        rw [ByteArray.data_append, Array.toList_append, List.all_append, hb, (codeB_at hc (show (rd sy (n : Int)).toNat < ws.length by omega)).2.1]; rfl)
      refine Ev.cond (fun _ => ?_) (fun h' => absurd rfl h')
      refine Ev.cond (fun _ => ?_) (fun h' => absurd hm.1 h')
      refine Ev.cond (fun _ => ?_) (fun h' => absurd c3 h')
      exact Ev.cond (fun _ => h3) (fun h' => absurd c4 h')
    · rw [decide_eq_false hm, Bool.false_and, if_neg (by decide)]
      exact Ev.cond (fun h' => absurd h' (by decide)) (fun _ => Ev.now _)
/-- The common answer. -/
def flR (ws : List ByteArray) (sy : List Int) (z : Int) : FlR :=
  if (codeB ws = true ∧ complB ws = true) ∧ 2 ≤ ws.length ∧ sy.length ≤ 400 then (if inAll 0 ((ws.length : Int) - 1) sy = true then finR ws z (catS ws sy (⟨#[]⟩ : ByteArray)) else (0, 0, false)) else (0, 0, false)
theorem FlipLossI_ev (ws : List ByteArray) (hn : ws.length ≤ 1099511627776) (hs : totS ws ≤ 1099511627776) (sy : List Int) (hy : sy.length ≤ 1099511627776) (z : Int) (h1 : -9223372036854775808 ≤ z) (h2 : z ≤ 9223372036854775807) :
    Ev (fun k => impl_FlipLoss.f k ws sy z) (flR ws sy z) := by
  have no : Ev (fun k => impl_FlipLoss.j0 k ws sy z true) (0, 0, false) := by
    apply Ev.succ
    simp only [impl_FlipLoss.j0]
    exact Ev.cond (fun _ => Ev.now _) (fun h' => absurd (by trivial) h')
  unfold impl_FlipLoss.f flR
  refine Ev.bind (IsCompleteI_ev ws hn hs) ?_
  by_cases hc : codeB ws = true ∧ complB ws = true
  · rw [hc.1, hc.2]
    refine Ev.cond (fun _ => ?_) (fun h' => absurd rfl h')
    obtain ⟨hl1, hl2⟩ := codeB_len hc.1
    by_cases h3 : 2 ≤ ws.length
    · have c1 : ¬ (ws.length : Int) < 2 := by omega
      refine Ev.cond (fun h' => absurd h' c1) (fun _ => ?_)
      by_cases h4 : sy.length ≤ 400
      · have c2 : ¬ (sy.length : Int) > 400 := by omega
        rw [if_pos ⟨⟨rfl, rfl⟩, h3, h4⟩]
        refine Ev.cond (fun h' => absurd h' c2) (fun _ => ?_)
        rw [w64 (show -9223372036854775808 ≤ (ws.length : Int) - 1 by omega) (by omega)]
        refine Ev.bind (areIn_ev 0 ((ws.length : Int) - 1) sy hy) ?_
        rcases hi : inAll 0 ((ws.length : Int) - 1) sy with _ | _
        · rw [if_neg (by decide)]; exact no
        · rw [if_pos rfl]
          have hl := flI_l0 ws hc.1 sy h4 (fun y hy => inAll_mem hi y hy) z h1 h2 sy.length 0 (⟨#[]⟩ : ByteArray) (by omega) (Nat.le_refl _) rfl
          rw [List.drop_zero] at hl
          apply Ev.succ
          simp only [impl_FlipLoss.j0]
          exact Ev.cond (fun h' => absurd h' (by decide)) (fun _ => hl)
      · have c2 : (sy.length : Int) > 400 := by omega
        rw [if_neg (fun h => h4 h.2.2)]
        exact Ev.cond (fun _ => no) (fun h' => absurd c2 h')
    · have c1 : (ws.length : Int) < 2 := by omega
      rw [if_neg (fun h => h3 h.2.1)]
      exact Ev.cond (fun _ => no) (fun h' => absurd c1 h')
  · rw [if_neg (fun h => hc h.1), show (codeB ws && complB ws) = false from Bool.eq_false_iff.2 (fun h => hc (by rw [Bool.and_eq_true] at h; exact h))]
    exact Ev.cond (fun h' => absurd h' (by decide)) (fun _ => no)
theorem FlipLossS_ev (ws : List ByteArray) (hn : ws.length ≤ 1099511627776) (hs : totS ws ≤ 1099511627776) (sy : List Int) (hy : sy.length ≤ 1099511627776) (z : Int) (h1 : -9223372036854775808 ≤ z) (h2 : z ≤ 9223372036854775807) :
    Ev (fun k => spec_FlipLoss.f k ws sy z) (flR ws sy z) := by
  have no : Ev (fun k => spec_FlipLoss.j0 k ws sy z true) (0, 0, false) := by
    apply Ev.succ
    simp only [spec_FlipLoss.j0]
    exact Ev.cond (fun _ => Ev.now _) (fun h' => absurd (by trivial) h')
  unfold spec_FlipLoss.f flR
  refine Ev.bind (l05Is_ev ws hn hs) ?_
  rcases hc : codeB ws with _ | _
  · rw [if_neg (fun h => absurd h.1.1 (by decide))]
    exact Ev.cond (fun h' => absurd h' (by decide)) (fun _ => no)
  refine Ev.cond (fun _ => ?_) (fun h' => absurd rfl h')
  by_cases h3 : 2 ≤ ws.length
  · have c1 : ¬ (ws.length : Int) < 2 := by omega
    refine Ev.cond (fun h' => absurd h' c1) (fun _ => ?_)
    refine Ev.bind (l05Complete_ev ws hc hs) ?_
    rcases complB ws with _ | _
    · rw [if_neg (fun h => absurd h.1.2 (by decide))]
      exact Ev.cond (fun h' => absurd h' (by decide)) (fun _ => no)
    refine Ev.cond (fun _ => ?_) (fun h' => absurd rfl h')
    by_cases h4 : sy.length ≤ 400
    · rw [if_pos ⟨⟨rfl, rfl⟩, h3, h4⟩, decide_eq_false (show ¬ (sy.length : Int) > 400 by omega)]
      have hl := flS_l0 ws hc sy h4 z h1 h2 sy.length 0 (⟨#[]⟩ : ByteArray) (by omega) (Nat.le_refl _) rfl
      rw [List.drop_zero] at hl
      apply Ev.succ
      simp only [spec_FlipLoss.j0]
      exact Ev.cond (fun h' => absurd h' (by decide)) (fun _ => hl)
    · rw [if_neg (fun h => h4 h.2.2), decide_eq_true (show (sy.length : Int) > 400 by omega)]
      exact no
  · have c1 : (ws.length : Int) < 2 := by omega
    rw [if_neg (fun h => h3 h.2.1)]
    exact Ev.cond (fun _ => no) (fun h' => absurd c1 h')
theorem FnExactFlipLoss : laws_FnExactFlipLoss.Pure := by
  intro ws sy z hm0 hx0 hm1 hx1 h1 h2
  refine Ev.rounds ?_
  unfold laws_FnExactFlipLoss.f
  by_cases hl : (sy.length : Int) > 1048576
  · exact Ev.cond (fun _ => Ev.now _) (fun h' => absurd hl h')
  refine Ev.cond (fun h' => absurd h' hl) (fun _ => ?_)
  obtain ⟨v, hv, hp⟩ := szS_ev ws hx0 hm0 1048576 (by omega) (by omega)
  refine Ev.bind hv ?_
  rcases hp with rfl | ⟨hp, hq⟩
  · exact Ev.cond (fun _ => Ev.now _) (fun h' => absurd (by decide) h')
  have n1 : ¬ v < 0 := by omega
  refine Ev.cond (fun h' => absurd h' n1) (fun _ => ?_)
  have l1 : ws.length ≤ 1099511627776 := by omega
  have z1 : totS ws ≤ 1099511627776 := by omega
  have l2 : sy.length ≤ 1099511627776 := by omega
  have t1 := toStringS_ev ws l1
  have t2 := toInt64S_ev sy l2
  refine Ev.bind t1 (Ev.bind t2 (Ev.bind (FlipLossS_ev ws l1 z1 sy l2 z h1 h2) (Ev.bind t1 (Ev.bind t2 (Ev.bind (FlipLossI_ev ws l1 z1 sy l2 z h1 h2) ?_)))))
  refine Ev.cond (fun _ => ?_) (fun h' => absurd (by trivial) h')
  refine Ev.cond (fun _ => ?_) (fun h' => absurd (by trivial) h')
  rw [bne_self_eq_false]
  apply Ev.succ
  simp only [laws_FnExactFlipLoss.j0]
  refine Ev.cond (fun h' => absurd h' (by decide)) (fun _ => ?_)
  refine Ev.bind t1 (Ev.bind (eqStringS_same ws l1) ?_)
  refine Ev.cond (fun _ => ?_) (fun h' => absurd (by trivial) h')
  refine Ev.bind t2 (Ev.bind (eqInt64S_same sy l2) ?_)
  exact Ev.cond (fun _ => Ev.now _) (fun h' => absurd (by trivial) h')

end Go.Proofs.YtohdepanfnaddaaDoor.Pure
