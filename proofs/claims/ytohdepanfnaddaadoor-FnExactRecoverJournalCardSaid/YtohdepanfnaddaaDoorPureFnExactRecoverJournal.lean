/- For all texts the program's RecoverJournal answers what the reference's does, and hands out memory of its own. -/
import Derived.Test.YtohdepanfnaddaaDoorQFnExactRecoverJournalx5
import Derived.Test.YtohdepanfnaddaaDoorBase
namespace Go.Proofs.YtohdepanfnaddaaDoor.Pure
open Go.RowKit Go.Proofs.YtohdepanfnaddaaDoor.QFnExactRecoverJournal Go.Proofs.YtohdepanfnaddaaDoor.Base Go.Proofs.YtohdepanfnaddaaDoorW.PrintWords Go.Proofs.YtohdepanfnaddaaDoorW.PrintLast Go.Proofs.YtohdepanfnaddaaDoorW.PrintMore
set_option linter.unusedVariables false
set_option linter.unusedSimpArgs false

/-! strL -/
/-- A text of a list, by its place. -/
def sn (xs : List ByteArray) (n : Nat) : ByteArray := xs.getD n ByteArray.empty
theorem sr_nat (xs : List ByteArray) (n : Nat) : rdOf ByteArray.empty xs (n : Int) = sn xs n := by unfold rdOf sn; rw [Int.toNat_natCast]
theorem sn_get {xs : List ByteArray} {n : Nat} (h : n < xs.length) : sn xs n = xs[n] := by
  unfold sn
  rw [List.getD_eq_getElem?_getD, List.getElem?_eq_getElem h]; rfl
theorem sn_mem {xs : List ByteArray} {n : Nat} (h : n < xs.length) : sn xs n ∈ xs := by rw [sn_get h]; exact List.getElem_mem h
theorem drop_sn {xs : List ByteArray} {n : Nat} (h : n < xs.length) : xs.drop n = sn xs n :: xs.drop (n + 1) := by
  rw [sn_get h, List.drop_eq_getElem_cons h]
theorem take_sn {xs : List ByteArray} {n : Nat} (h : n < xs.length) : xs.take (n + 1) = xs.take n ++ [sn xs n] := by
  rw [sn_get h, List.take_succ_eq_append_getElem h]
/-- The sizes of texts together. -/
def totS : List ByteArray → Nat
  | [] => 0
  | x :: r => x.size + totS r
theorem totS_mem {xs : List ByteArray} {x : ByteArray} (h : x ∈ xs) : x.size ≤ totS xs := by
  induction xs with
  | nil => exact absurd h (by simp)
  | cons y xs ih =>
    unfold totS
    rcases List.mem_cons.1 h with rfl | h
    · omega
    · have := ih h; omega
theorem sn_size (xs : List ByteArray) (n : Nat) : (sn xs n).size ≤ totS xs := by
  by_cases h : n < xs.length
  · exact totS_mem (sn_mem h)
  · have e : sn xs n = ByteArray.empty := by
      unfold sn
      rw [List.getD_eq_getElem?_getD, List.getElem?_eq_none (by omega)]; rfl
    rw [e]; exact Nat.zero_le _
theorem bytes_ext {a b : ByteArray} (h : a.toList = b.toList) : a = b := by
  rw [Lib.toList_data, Lib.toList_data] at h
  exact ByteArray.ext (Array.ext' h)
instance decMemS : (x : ByteArray) → (xs : List ByteArray) → Decidable (x ∈ xs)
  | x, [] => isFalse (by simp)
  | x, y :: r => if h : x = y then isTrue (by rw [h]; exact List.mem_cons_self) else match decMemS x r with
    | isTrue h2 => isTrue (List.mem_cons_of_mem _ h2)
    | isFalse h2 => isFalse (fun h3 => by rcases List.mem_cons.1 h3 with h3 | h3; exact h h3; exact h2 h3)

/-! byt -/
/-- A text of bytes. -/
def ofL (l : List UInt8) : ByteArray := ⟨l.toArray⟩
theorem ofL_data (l : List UInt8) : (ofL l).data.toList = l := rfl
theorem ofL_list (l : List UInt8) : (ofL l).toList = l := by rw [Lib.toList_data, ofL_data]
theorem ofL_size (l : List UInt8) : (ofL l).size = l.length := by rw [← size_data, ofL_data]
theorem ofL_of (s : ByteArray) : ofL s.data.toList = s := ByteArray.ext (Array.ext' rfl)
theorem ofL_inj {a b : List UInt8} (h : ofL a = ofL b) : a = b := by rw [← ofL_data a, h, ofL_data]
theorem ext_data (s : ByteArray) (a b : Nat) : (s.extract a b).data.toList = (s.data.toList.drop a).take (b - a) := by
  rw [ByteArray.data_extract, Array.toList_extract]
theorem ext_ofL (s : ByteArray) (a b : Nat) : s.extract a b = ofL ((s.data.toList.drop a).take (b - a)) := by
  rw [← ext_data, ofL_of]
theorem ofL_ext (l : List UInt8) (a b : Nat) : (ofL l).extract a b = ofL ((l.drop a).take (b - a)) := by rw [ext_ofL, ofL_data]
theorem ofL_app (a b : List UInt8) : ofL a ++ ofL b = ofL (a ++ b) := by
  apply ByteArray.ext
  rw [ByteArray.data_append]
  apply Array.ext'
  rw [Array.toList_append]; rfl
theorem ofL_bt {l : List UInt8} {i : Nat} (h : i < l.length) : bt (ofL l) (i : Int) = ((l[i]).toNat : Int) := by
  rw [bt_nat _ _ (by rw [ofL_size]; exact h)]; rfl

/-! split -/
def attach (p : List UInt8) : List (List UInt8) → List (List UInt8)
  | [] => [p]
  | h :: r => (p ++ h) :: r
/-- The parts between marks. -/
def splitL (c : UInt8) : List UInt8 → List (List UInt8)
  | [] => [[]]
  | b :: l => if b = c then [] :: splitL c l else attach [b] (splitL c l)
theorem attach_attach (p q : List UInt8) (s : List (List UInt8)) : attach p (attach q s) = attach (p ++ q) s := by
  cases s with
  | nil => rfl
  | cons h r => show (p ++ (q ++ h)) :: r = _; rw [← List.append_assoc]; rfl
theorem splitL_ne (c : UInt8) (l : List UInt8) : ∃ h r, splitL c l = h :: r := by
  cases l with
  | nil => exact ⟨[], [], rfl⟩
  | cons b l =>
    unfold splitL
    by_cases h : b = c
    · rw [if_pos h]; exact ⟨_, _, rfl⟩
    · rw [if_neg h]
      cases splitL c l with
      | nil => exact ⟨_, _, rfl⟩
      | cons x y => exact ⟨_, _, rfl⟩
theorem attach_nil (c : UInt8) (l : List UInt8) : attach [] (splitL c l) = splitL c l := by
  obtain ⟨h, r, e⟩ := splitL_ne c l
  rw [e]; rfl
theorem splitL_length (c : UInt8) : ∀ l, (splitL c l).length ≤ l.length + 1
  | [] => Nat.le_refl _
  | b :: l => by
    have ih := splitL_length c l
    unfold splitL
    by_cases h : b = c
    · rw [if_pos h, List.length_cons, List.length_cons]; omega
    · rw [if_neg h]
      obtain ⟨x, y, e⟩ := splitL_ne c l
      rw [e] at ih ⊢
      show ((_ : List UInt8) :: y).length ≤ _
      rw [List.length_cons] at ih ⊢
      rw [List.length_cons]; omega
theorem splitL_pos (c : UInt8) (l : List UInt8) : 0 < (splitL c l).length := by
  obtain ⟨h, r, e⟩ := splitL_ne c l
  rw [e, List.length_cons]; omega
theorem idx_split (c : UInt8) : ∀ l : List UInt8, (Lib.indexByte l c = -1 ∧ splitL c l = [l]) ∨ ∃ n : Nat, Lib.indexByte l c = (n : Int) ∧ n < l.length ∧ splitL c l = l.take n :: splitL c (l.drop (n + 1))
  | [] => .inl ⟨rfl, rfl⟩
  | b :: l => by
    by_cases h : b = c
    · refine .inr ⟨0, ?_, by rw [List.length_cons]; omega, ?_⟩
      · simp [Lib.indexByte, h]
      · show splitL c (b :: l) = [] :: splitL c l
        rw [splitL, if_pos h]
    · have hb : (b == c) = false := beq_eq_false_iff_ne.2 h
      rcases idx_split c l with ⟨e1, e2⟩ | ⟨n, e1, e2, e3⟩
      · refine .inl ⟨?_, ?_⟩
        · simp [Lib.indexByte, hb, e1]
        · unfold splitL
          rw [if_neg h, e2]; rfl
      · refine .inr ⟨n + 1, ?_, by rw [List.length_cons]; omega, ?_⟩
        · have hn : ((n : Int) == -1) = false := beq_eq_false_iff_ne.2 (by omega)
          simp [Lib.indexByte, hb, e1, hn]
        · show splitL c (b :: l) = (b :: l.take n) :: splitL c (l.drop (n + 1))
          rw [splitL, if_neg h, e3]; rfl
theorem idx_cases (c : UInt8) (l : List UInt8) : Lib.indexByte l c = -1 ∨ ∃ n : Nat, Lib.indexByte l c = (n : Int) ∧ n < l.length := by
  rcases idx_split c l with ⟨h, _⟩ | ⟨n, h, h2, _⟩
  · exact .inl h
  · exact .inr ⟨n, h, h2⟩

/-! ckL -/
/-- The check number of bytes. -/
def ckL (c : Int) (l : List UInt8) : Int := l.foldl (fun c b => (3001 * c + (b.toNat : Int) + 5) % 65003) c
theorem ckL_cons (c : Int) (b : UInt8) (l : List UInt8) : ckL c (b :: l) = ckL ((3001 * c + (b.toNat : Int) + 5) % 65003) l := rfl
theorem ckL_in : ∀ (l : List UInt8) (c : Int), 0 ≤ c ∧ c ≤ 65002 → 0 ≤ ckL c l ∧ ckL c l ≤ 65002
  | [], c, h => h
  | b :: l, c, h => by
    rw [ckL_cons]
    exact ckL_in l _ (by omega)
theorem ck_step {c : Int} (h : 0 ≤ c ∧ c ≤ 65002) (b : UInt8) : Int.tmod (wrap64 ((wrap64 ((wrap64 (3001 * c)) + (wrap64 ((b.toNat : Nat) : Int)))) + 5)) 65003 = (3001 * c + (b.toNat : Int) + 5) % 65003 := by
  have hb : b.toNat < 256 := b.toNat_lt
  rw [w64 (show -9223372036854775808 ≤ 3001 * c by omega) (by omega), w64 (show -9223372036854775808 ≤ ((b.toNat : Nat) : Int) by omega) (by omega), w64 (show -9223372036854775808 ≤ 3001 * c + ((b.toNat : Nat) : Int) by omega) (by omega), w64 (by omega) (by omega)]
  exact Int.tmod_eq_emod_of_nonneg (by omega)
theorem l01Check_l0 (s : ByteArray) (hs : s.size ≤ 1099511627776) : ∀ d i c, i + d = s.size → 0 ≤ c ∧ c ≤ 65002 → Ev (fun k => spec_l01Check.l0 k c s (i : Int)) (ckL c (s.data.toList.drop i)) := by
  intro d
  induction d with
  | zero =>
    intro i c h hc
    have c1 : ¬ (i : Int) < (s.size : Int) := by omega
    rw [List.drop_eq_nil_of_le (by rw [size_data]; omega)]
    apply Ev.succ
    simp only [spec_l01Check.l0]
    exact Ev.cond (fun h' => absurd h' c1) (fun _ => Ev.now _)
  | succ d ih =>
    intro i c h hc
    have hl : i < s.size := by omega
    have c1 : (i : Int) < (s.size : Int) := by omega
    have c2 : (0 : Int) ≤ (i : Int) := by omega
    have h3 := ih (i + 1) ((3001 * c + (s[i].toNat : Int) + 5) % 65003) (by omega) (by omega)
    rw [drop_data hl, ckL_cons]
    apply Ev.succ
    simp only [spec_l01Check.l0, w64_succ (show i < 9223372036854775807 by omega), bt_nat s i hl, ck_step hc]
    refine Ev.cond (fun _ => ?_) (fun h' => absurd c1 h')
    exact Ev.cond (fun _ => h3) (fun h' => absurd c2 h')
theorem l01Check_ev (s : ByteArray) (hs : s.size ≤ 1099511627776) (c : Int) (hc : 0 ≤ c ∧ c ≤ 65002) : Ev (fun k => spec_l01Check.f k c s) (ckL c s.data.toList) := l01Check_l0 s hs s.size 0 c (by omega) hc
theorem CheckOf_l0 (s : ByteArray) (hs : s.size ≤ 1099511627776) : ∀ d i c, i + d = s.size → 0 ≤ c ∧ c ≤ 65002 → Ev (fun k => impl_CheckOf.l0 k c s (s.size : Int) (i : Int)) (ckL c (s.data.toList.drop i), true) := by
  intro d
  induction d with
  | zero =>
    intro i c h hc
    have c1 : ¬ (i : Int) < (s.size : Int) := by omega
    rw [List.drop_eq_nil_of_le (by rw [size_data]; omega)]
    apply Ev.succ
    simp only [impl_CheckOf.l0]
    exact Ev.cond (fun h' => absurd h' c1) (fun _ => Ev.now _)
  | succ d ih =>
    intro i c h hc
    have hl : i < s.size := by omega
    have c1 : (i : Int) < (s.size : Int) := by omega
    have c2 : (0 : Int) ≤ (i : Int) := by omega
    have h3 := ih (i + 1) ((3001 * c + (s[i].toNat : Int) + 5) % 65003) (by omega) (by omega)
    rw [drop_data hl, ckL_cons]
    apply Ev.succ
    simp only [impl_CheckOf.l0, w64_succ (show i < 9223372036854775807 by omega), bt_nat s i hl, ck_step hc]
    refine Ev.cond (fun _ => ?_) (fun h' => absurd c1 h')
    refine Ev.cond (fun _ => ?_) (fun h' => absurd c2 h')
    exact Ev.cond (fun _ => h3) (fun h' => absurd c1 h')

/-! recL -/
/-- What is recovered of lines. -/
def recL : List (List UInt8) → List ByteArray → Int → Int → List ByteArray × Int × Bool
  | [], out, _, n => (out, n, true)
  | l :: r, out, c, n => if Lib.indexByte l 32 < 0 then (out, n, true) else
      if l.take (Lib.indexByte l 32).toNat = Lib.itoa (ckL c (l.drop ((Lib.indexByte l 32).toNat + 1))) then
        recL r (out ++ [ofL (l.drop ((Lib.indexByte l 32).toNat + 1))]) (ckL c (l.drop ((Lib.indexByte l 32).toNat + 1))) (n + ((l.length : Int) + 1))
      else (out, n, true)
theorem recL_none {l : List UInt8} (h : Lib.indexByte l 32 = -1) (r : List (List UInt8)) (out : List ByteArray) (c n : Int) : recL (l :: r) out c n = (out, n, true) := by
  unfold recL
  rw [h, if_pos (by decide)]
theorem recL_some {l : List UInt8} {i : Nat} (h : Lib.indexByte l 32 = (i : Int)) (r : List (List UInt8)) (out : List ByteArray) (c n : Int) :
    recL (l :: r) out c n = if l.take i = Lib.itoa (ckL c (l.drop (i + 1))) then recL r (out ++ [ofL (l.drop (i + 1))]) (ckL c (l.drop (i + 1))) (n + ((l.length : Int) + 1)) else (out, n, true) := by
  rw [recL, h, if_neg (by omega), Int.toNat_natCast]
/-- The reader's answer. -/
def recR (s : ByteArray) : List ByteArray × Int × Bool := if s.size ≤ 4000 then recL (splitL 10 s.data.toList).dropLast [] 0 0 else ([], 0, false)
theorem itoa_inj_of {n : Int} {l : List UInt8} : (ofL l).toList = (ofL (Lib.itoa n)).toList ↔ l = Lib.itoa n := by rw [ofL_list, ofL_list]

/-! l11Cut -/
theorem l11Cut_l0 (t : ByteArray) (c : UInt8) (ht : t.size ≤ 1099511627776) : ∀ d i fr (out : List ByteArray), i + d = t.size → fr ≤ i → out.length ≤ i →
    Ev (fun k => spec_l11Cut.l0 k t (c.toNat : Int) out (fr : Int) (i : Int)) (out ++ (attach ((t.data.toList.drop fr).take (i - fr)) (splitL c (t.data.toList.drop i))).map ofL) := by
  intro d
  induction d with
  | zero =>
    intro i fr out h hf ho
    have c1 : (i : Int) ≤ (t.size : Int) := by omega
    have c2 : (i : Int) = (t.size : Int) := by omega
    have c3 : (0 : Int) ≤ (fr : Int) := by omega
    have c4 : (fr : Int) ≤ (i : Int) := by omega
    have c5 : out.length < 8796093022208 := by omega
    have c6 : ¬ ((i + 1 : Nat) : Int) ≤ (t.size : Int) := by omega
    have e : out ++ (attach ((t.data.toList.drop fr).take (i - fr)) (splitL c (t.data.toList.drop i))).map ofL = out ++ [t.extract fr i] := by
      rw [List.drop_eq_nil_of_le (show t.data.toList.length ≤ i by rw [size_data]; omega), ext_ofL]
      show out ++ [ofL (_ ++ [])] = _
      rw [List.append_nil]
    rw [e]
    apply Ev.succ
    simp only [spec_l11Cut.l0, w64_succ (show i < 9223372036854775807 by omega), Int.toNat_natCast]
    refine Ev.cond (fun _ => ?_) (fun h' => absurd c1 h')
    refine Ev.cond (fun _ => ?_) (fun h' => absurd c2 h')
    refine Ev.cond (fun _ => ?_) (fun h' => absurd c3 h')
    refine Ev.cond (fun _ => ?_) (fun h' => absurd c4 h')
    refine Ev.cond (fun _ => ?_) (fun h' => absurd c5 h')
    apply Ev.succ
    simp only [spec_l11Cut.l0]
    exact Ev.cond (fun h' => absurd h' c6) (fun _ => Ev.now _)
  | succ d ih =>
    intro i fr out h hf ho
    have hl : i < t.size := by omega
    have c1 : (i : Int) ≤ (t.size : Int) := by omega
    have c2 : ¬ (i : Int) = (t.size : Int) := by omega
    have c3 : (0 : Int) ≤ (fr : Int) := by omega
    have c4 : (fr : Int) ≤ (i : Int) := by omega
    have c5 : out.length < 8796093022208 := by omega
    have c6 : (0 : Int) ≤ (i : Int) := by omega
    have c7 : (i : Int) < (t.size : Int) := by omega
    rw [drop_data hl]
    apply Ev.succ
    simp only [spec_l11Cut.l0, w64_succ (show i < 9223372036854775807 by omega), Int.toNat_natCast, bt_nat t i hl]
    refine Ev.cond (fun _ => ?_) (fun h' => absurd c1 h')
    refine Ev.cond (fun h' => absurd h' c2) (fun _ => ?_)
    refine Ev.cond (fun _ => ?_) (fun h' => absurd c6 h')
    refine Ev.cond (fun _ => ?_) (fun h' => absurd c7 h')
    by_cases hc : t[i] = c
    · have h3 := ih (i + 1) (i + 1) (out ++ [t.extract fr i]) (by omega) (Nat.le_refl _) (by rw [List.length_append, List.length_singleton]; omega)
      rw [Nat.sub_self, List.take_zero, attach_nil, List.append_assoc] at h3
      unfold splitL
      rw [if_pos hc]
      have e : out ++ (attach ((t.data.toList.drop fr).take (i - fr)) ([] :: splitL c (t.data.toList.drop (i + 1)))).map ofL = out ++ ([t.extract fr i] ++ (splitL c (t.data.toList.drop (i + 1))).map ofL) := by
        rw [ext_ofL]
        show out ++ (ofL (_ ++ []) :: _) = _
        rw [List.append_nil]; rfl
      rw [e]
      refine Ev.cond (fun _ => ?_) (fun h' => absurd (by rw [hc]) h')
      refine Ev.cond (fun _ => ?_) (fun h' => absurd c3 h')
      refine Ev.cond (fun _ => ?_) (fun h' => absurd c4 h')
      exact Ev.cond (fun _ => h3) (fun h' => absurd c5 h')
    · have h3 := ih (i + 1) fr out (by omega) (by omega) (by omega)
      unfold splitL
      rw [if_neg hc, attach_attach]
      have e : (t.data.toList.drop fr).take (i + 1 - fr) = (t.data.toList.drop fr).take (i - fr) ++ [t[i]] := by
        rw [show i + 1 - fr = (i - fr) + 1 by omega, List.take_succ_eq_append_getElem (by rw [List.length_drop, size_data]; omega), List.getElem_drop]
        congr 2
        rw [← data_get hl]
        congr 1
        omega
      rw [e] at h3
      exact Ev.cond (fun h' => absurd (UInt8.toNat_inj.1 (by omega)) hc) (fun _ => h3)
theorem l11Cut_ev (t : ByteArray) (c : UInt8) (ht : t.size ≤ 1099511627776) : Ev (fun k => spec_l11Cut.f k t (c.toNat : Int)) ((splitL c t.data.toList).map ofL) := by
  have h := l11Cut_l0 t c ht t.size 0 0 [] (by omega) (Nat.le_refl _) (Nat.le_refl _)
  rw [List.drop_zero, List.take_zero, attach_nil, List.nil_append] at h
  exact h

/-! decD -/
/-- The digits of a number, the last one first; none of 0. -/
def revD (u : Nat) : List Int := if h : u = 0 then [] else (48 + ((u % 10 : Nat) : Int)) :: revD (u / 10)
termination_by u
decreasing_by omega
theorem revD_zero : revD 0 = [] := by unfold revD; rfl
theorem revD_pos {u : Nat} (h : u ≠ 0) : revD u = (48 + ((u % 10 : Nat) : Int)) :: revD (u / 10) := by
  rw [revD, dif_neg h]
theorem revD_dec (u : Nat) (h : u ≠ 0) : Lib.decDigits u = (revD u).reverse.map (fun n => UInt8.ofNat n.toNat) := by
  induction u using Nat.strongRecOn with
  | _ u ih =>
    rw [Lib.decDigits]
    by_cases h10 : u < 10
    · rw [dif_pos h10, revD_pos h, Nat.mod_eq_of_lt h10, Nat.div_eq_of_lt h10, revD_zero]
      show _ = [UInt8.ofNat (48 + (u : Int)).toNat]
      congr 2
    · rw [dif_neg h10, revD_pos h, ih (u / 10) (by omega) (by omega), List.reverse_cons, List.map_append]
      congr 2
theorem revD_range (u : Nat) : ∀ z ∈ revD u, 0 ≤ z ∧ z ≤ 255 := by
  induction u using Nat.strongRecOn with
  | _ u ih =>
    by_cases h : u = 0
    · subst h; rw [revD_zero]; intro z hz; exact absurd hz (by simp)
    · rw [revD_pos h]
      intro z hz
      rcases List.mem_cons.1 hz with rfl | hz
      · omega
      · exact ih (u / 10) (by omega) z hz
theorem revD_length (u : Nat) : (revD u).length ≤ u := by
  induction u using Nat.strongRecOn with
  | _ u ih =>
    by_cases h : u = 0
    · subst h; rw [revD_zero]; exact Nat.le_refl _
    · rw [revD_pos h, List.length_cons]
      have := ih (u / 10) (by omega)
      omega
theorem revD_len20 : ∀ (m u : Nat), u < 10 ^ m → (revD u).length ≤ m
  | 0, u, h => by
    obtain rfl : u = 0 := by simpa using h
    rw [revD_zero]; exact Nat.le_refl _
  | m + 1, u, h => by
    by_cases h0 : u = 0
    · subst h0; rw [revD_zero]; exact Nat.zero_le _
    · rw [revD_pos h0, List.length_cons]
      have := revD_len20 m (u / 10) (by rw [Nat.pow_succ] at h; omega)
      omega

/-! decSp -/
def decS2 (n : Int) : ByteArray := ofL (Lib.itoa n)
theorem l01Dec_l1 (ds : List Int) (hd : ds.length ≤ 1000) : ∀ (m : Nat) (out : List Int), m ≤ ds.length → out.length + m = ds.length → Ev (fun k => spec_l01Dec.l1 k ds out ((m : Int) - 1)) (strOfNums (out ++ (ds.take m).reverse)) := by
  intro m
  induction m with
  | zero =>
    intro out hm ho
    have c1 : ¬ (((0 : Nat) : Int) - 1) ≥ 0 := by omega
    rw [List.take_zero, List.reverse_nil, List.append_nil]
    apply Ev.succ
    simp only [spec_l01Dec.l1]
    exact Ev.cond (fun h' => absurd h' c1) (fun _ => Ev.now _)
  | succ m ih =>
    intro out hm ho
    have e : ((m + 1 : Nat) : Int) - 1 = (m : Int) := by omega
    rw [e]
    have c1 : (m : Int) ≥ 0 := by omega
    have c2 : (m : Int) < (ds.length : Int) := by omega
    have c3 : out.length < 140737488355328 := by omega
    have h3 := ih (out ++ [rd ds (m : Int)]) (by omega) (by rw [List.length_append, List.length_singleton]; omega)
    rw [take_rd (show m < ds.length by omega), List.reverse_append]
    rw [List.append_assoc] at h3
    apply Ev.succ
    simp only [spec_l01Dec.l1, w64 (show -9223372036854775808 ≤ (m : Int) - 1 by omega) (show (m : Int) - 1 ≤ 9223372036854775807 by omega)]
    refine Ev.cond (fun _ => ?_) (fun h' => absurd c1 h')
    refine Ev.cond (fun _ => ?_) (fun h' => absurd c1 h')
    refine Ev.cond (fun _ => ?_) (fun h' => absurd c2 h')
    exact Ev.cond (fun _ => h3) (fun h' => absurd c3 h')
theorem l01Dec_j1 (ds : List Int) (hd : ds.length ≤ 1000) : Ev (fun k => spec_l01Dec.j1 k ds) (strOfNums ds.reverse) := by
  have h := l01Dec_l1 ds hd ds.length [] (Nat.le_refl _) (by simp)
  rw [List.take_length, List.nil_append] at h
  apply Ev.succ
  simp only [spec_l01Dec.j1, w64 (show -9223372036854775808 ≤ (ds.length : Int) - 1 by omega) (show (ds.length : Int) - 1 ≤ 9223372036854775807 by omega)]
  exact h
theorem l01Dec_l0 (n : Int) (sg : Int) (hsg : sg = 1 ∨ sg = -1) : ∀ (u : Nat) (out : List Int), out.length + (revD u).length ≤ 500 → u ≤ 9223372036854775808 →
    Ev (fun k => spec_l01Dec.l0 k n out (sg * (u : Int))) (strOfNums ((out ++ revD u) ++ (if n < 0 then [45] else [])).reverse) := by
  intro u
  induction u using Nat.strongRecOn with
  | _ u ih =>
    intro out ho hu
    by_cases h0 : u = 0
    · subst h0
      have c1 : sg * ((0 : Nat) : Int) = 0 := by simp
      rw [revD_zero] at ho ⊢
      rw [List.append_nil]
      simp only [List.length_nil, Nat.add_zero] at ho
      have c2 : out.length < 140737488355328 := by omega
      apply Ev.succ
      simp only [spec_l01Dec.l0, c1]
      refine Ev.cond (fun _ => ?_) (fun h' => absurd (by trivial) h')
      by_cases hn : n < 0
      · rw [if_pos hn]
        refine Ev.cond (fun _ => ?_) (fun h' => absurd hn h')
        exact Ev.cond (fun _ => l01Dec_j1 _ (by rw [List.length_append, List.length_singleton]; omega)) (fun h' => absurd c2 h')
      · rw [if_neg hn, List.append_nil]
        exact Ev.cond (fun h' => absurd h' hn) (fun _ => l01Dec_j1 _ (by omega))
    · rw [revD_pos h0, List.length_cons] at ho
      have c2 : out.length < 140737488355328 := by omega
      have h3 := ih (u / 10) (by omega) (out ++ [48 + ((u % 10 : Nat) : Int)]) (by rw [List.length_append, List.length_singleton]; omega) (by omega)
      rw [show (out ++ [48 + ((u % 10 : Nat) : Int)]) ++ revD (u / 10) = out ++ revD u by rw [revD_pos h0, List.append_assoc, List.singleton_append]] at h3
      have et : Int.tmod (sg * (u : Int)) 10 = sg * ((u % 10 : Nat) : Int) := by
        rcases hsg with rfl | rfl
        · rw [Int.one_mul, Int.one_mul]; rfl
        · rw [Int.neg_mul, Int.one_mul, Int.neg_tmod, Int.neg_mul, Int.one_mul]; rfl
      have ed : Int.tdiv (sg * (u : Int)) 10 = sg * ((u / 10 : Nat) : Int) := by
        rcases hsg with rfl | rfl
        · rw [Int.one_mul, Int.one_mul]; rfl
        · rw [Int.neg_mul, Int.one_mul, Int.neg_tdiv, Int.neg_mul, Int.one_mul]; rfl
      have hne : ¬ sg * (u : Int) = 0 := by rcases hsg with rfl | rfl <;> omega
      have ew : wrap64 (sg * ((u / 10 : Nat) : Int)) = sg * ((u / 10 : Nat) : Int) := by rcases hsg with rfl | rfl <;> exact w64 (by omega) (by omega)
      have hm : u % 10 < 10 := Nat.mod_lt _ (by decide)
      apply Ev.succ
      simp only [spec_l01Dec.l0, et, ed, ew]
      refine Ev.cond (fun h' => absurd h' hne) (fun _ => ?_)
      by_cases hneg : sg * ((u % 10 : Nat) : Int) < 0
      · refine Ev.cond (fun _ => ?_) (fun h' => absurd hneg h')
        have es : sg = -1 := by rcases hsg with rfl | rfl; exact absurd hneg (by omega); rfl
        subst es
        rw [w64 (show -9223372036854775808 ≤ -(-1 * ((u % 10 : Nat) : Int)) by omega) (by omega), w64 (show -9223372036854775808 ≤ 48 + -(-1 * ((u % 10 : Nat) : Int)) by omega) (by omega), show (48 + -(-1 * ((u % 10 : Nat) : Int))) % 256 = 48 + ((u % 10 : Nat) : Int) by omega]
        exact Ev.cond (fun _ => h3) (fun h' => absurd c2 h')
      · refine Ev.cond (fun h' => absurd h' hneg) (fun _ => ?_)
        have es : sg * ((u % 10 : Nat) : Int) = ((u % 10 : Nat) : Int) := by rcases hsg with rfl | rfl <;> omega
        rw [es, w64 (show -9223372036854775808 ≤ 48 + ((u % 10 : Nat) : Int) by omega) (by omega), show (48 + ((u % 10 : Nat) : Int)) % 256 = 48 + ((u % 10 : Nat) : Int) by omega]
        exact Ev.cond (fun _ => h3) (fun h' => absurd c2 h')
theorem l01Dec_ev (n : Int) (h1 : -9223372036854775808 ≤ n) (h2 : n ≤ 9223372036854775807) : Ev (fun k => spec_l01Dec.f k n) (ofL (Lib.itoa n)) := by
  unfold spec_l01Dec.f
  by_cases h0 : n = 0
  · subst h0
    refine Ev.cond (fun _ => ?_) (fun h' => absurd rfl h')
    have e : ofL (Lib.itoa 0) = (⟨#[48]⟩ : ByteArray) := by
      unfold Lib.itoa
      rw [if_neg (by decide), Lib.decDigits]
      rfl
    rw [e]
    exact Ev.now _
  · refine Ev.cond (fun h' => absurd h' h0) (fun _ => ?_)
    obtain ⟨sg, u, hsg, hu, hn⟩ : ∃ (sg : Int) (u : Nat), (sg = 1 ∨ sg = -1) ∧ n = sg * (u : Int) ∧ (sg = -1 ↔ n < 0) := by
      by_cases hneg : n < 0
      · exact ⟨-1, n.natAbs, .inr rfl, by omega, by omega⟩
      · exact ⟨1, n.toNat, .inl rfl, by omega, by omega⟩
    have hub : u ≤ 9223372036854775808 := by rcases hsg with rfl | rfl <;> omega
    have hu0 : u ≠ 0 := by rintro rfl; rw [hu] at h0; simp at h0
    have hl := revD_len20 20 u (Nat.lt_of_le_of_lt hub (by decide))
    have h3 := l01Dec_l0 n sg hsg u [] (by rw [List.length_nil]; omega) hub
    rw [← hu, List.nil_append] at h3
    have e : strOfNums ((revD u) ++ (if n < 0 then [45] else [])).reverse = ofL (Lib.itoa n) := by
      apply ByteArray.ext
      apply Array.ext'
      show List.map (fun n : Int => UInt8.ofNat n.toNat) _ = Lib.itoa n
      unfold Lib.itoa
      by_cases hneg : n < 0
      · rw [if_pos hneg, if_pos hneg, List.reverse_append, List.map_append, show n.natAbs = u by rcases hsg with rfl | rfl <;> omega, revD_dec u hu0]; rfl
      · rw [if_neg hneg, if_neg hneg, List.append_nil, show n.toNat = u by rcases hsg with rfl | rfl <;> omega, revD_dec u hu0]
    rw [e] at h3
    exact h3

/-! recS -/
theorem recS_j2 (ls : List (List UInt8)) (hb : ls.length ≤ 10000) (hz : ∀ l ∈ ls, l.length ≤ 10000) {out : List ByteArray} {c n : Int} {i : Nat} (hi : i < ls.length) (hc : 0 ≤ c ∧ c ≤ 65002) (hn : 0 ≤ n ∧ n ≤ 10000000000) (ho : out.length ≤ 10000)
    (h3 : ∀ (j : Nat), Lib.indexByte ls[i] 32 = (j : Int) → ls[i].take j = Lib.itoa (ckL c (ls[i].drop (j + 1))) →
      Ev (fun k => spec_RecoverJournal.l0 k (ls.map ofL) (out ++ [ofL (ls[i].drop (j + 1))]) (ckL c (ls[i].drop (j + 1))) (n + ((ls[i].length : Int) + 1)) ((i + 1 : Nat) : Int)) (recL (ls.drop (i + 1)) (out ++ [ofL (ls[i].drop (j + 1))]) (ckL c (ls[i].drop (j + 1))) (n + ((ls[i].length : Int) + 1)))) :
    Ev (fun k => spec_RecoverJournal.j2 k (ls.map ofL) out c n (i : Int) (if Lib.indexByte ls[i] 32 < 0 then (ls[i].length : Int) else Lib.indexByte ls[i] 32)) (recL (ls.drop i) out c n) := by
  have hzi := hz _ (List.getElem_mem hi)
  have es : sn (ls.map ofL) i = ofL ls[i] := by
    rw [sn_get (by rw [List.length_map]; exact hi), List.getElem_map]
  have c1 : (0 : Int) ≤ (i : Int) := by omega
  have c2 : (i : Int) < ((ls.map ofL).length : Int) := by rw [List.length_map]; omega
  rw [List.drop_eq_getElem_cons hi]
  apply Ev.succ
  simp only [spec_RecoverJournal.j2, sr_nat, es, ofL_size]
  refine Ev.cond (fun _ => ?_) (fun h' => absurd c1 h')
  refine Ev.cond (fun _ => ?_) (fun h' => absurd c2 h')
  rcases idx_cases 32 ls[i] with e | ⟨j, e, hj⟩
  · rw [recL_none e, e, if_pos (by decide)]
    exact Ev.cond (fun _ => Ev.now _) (fun h' => absurd rfl h')
  · rw [recL_some e, e, if_neg (by omega)]
    have c3 : ¬ (j : Int) = (ls[i].length : Int) := by omega
    have c4 : (0 : Int) ≤ ((j + 1 : Nat) : Int) := by omega
    have c5 : ((j + 1 : Nat) : Int) ≤ (ls[i].length : Int) := by omega
    have c6 : (0 : Int) ≤ (j : Int) := by omega
    have c7 : (j : Int) ≤ (ls[i].length : Int) := by omega
    have c8 : out.length < 8796093022208 := by omega
    have x1 : (ofL ls[i]).extract (j + 1) ls[i].length = ofL (ls[i].drop (j + 1)) := by
      rw [ofL_ext]
      congr 1
      exact List.take_of_length_le (by rw [List.length_drop]; omega)
    have x2 : (ofL ls[i]).extract 0 j = ofL (ls[i].take j) := by rw [ofL_ext, List.drop_zero, Nat.sub_zero]
    have hck := ckL_in (ls[i].drop (j + 1)) c hc
    have hk := l01Check_ev (ofL (ls[i].drop (j + 1))) (by rw [ofL_size, List.length_drop]; omega) c hc
    rw [ofL_data] at hk
    have hd := l01Dec_ev (ckL c (ls[i].drop (j + 1))) (by omega) (by omega)
    have ew : wrap64 (n + wrap64 ((ls[i].length : Int) + 1)) = n + ((ls[i].length : Int) + 1) := by
      rw [w64 (show -9223372036854775808 ≤ (ls[i].length : Int) + 1 by omega) (by omega), w64 (by omega) (by omega)]
    simp only [w64_succ (show j < 9223372036854775807 by omega), Int.toNat_natCast, x1, x2, ew, w64_succ (show i < 9223372036854775807 by omega)]
    refine Ev.cond (fun h' => absurd h' c3) (fun _ => ?_)
    refine Ev.cond (fun _ => ?_) (fun h' => absurd c4 h')
    refine Ev.cond (fun _ => ?_) (fun h' => absurd c5 h')
    refine Ev.bind hk ?_
    refine Ev.cond (fun _ => ?_) (fun h' => absurd c6 h')
    refine Ev.cond (fun _ => ?_) (fun h' => absurd c7 h')
    refine Ev.bind hd ?_
    by_cases hq : ls[i].take j = Lib.itoa (ckL c (ls[i].drop (j + 1)))
    · rw [if_pos hq]
      refine Ev.cond (fun _ => ?_) (fun h' => absurd (itoa_inj_of.2 hq) h')
      exact Ev.cond (fun _ => h3 j e hq) (fun h' => absurd c8 h')
    · rw [if_neg hq]
      exact Ev.cond (fun h' => absurd (itoa_inj_of.1 h') hq) (fun _ => Ev.now _)
theorem recS_l1 (ls : List (List UInt8)) (hb : ls.length ≤ 10000) {out : List ByteArray} {c n : Int} {i : Nat} (hi : i < ls.length) (hz : ls[i].length ≤ 10000) {r : List ByteArray × Int × Bool} : ∀ (d p : Nat), p + d = ls[i].length →
    Ev (fun k => spec_RecoverJournal.j2 k (ls.map ofL) out c n (i : Int) (if Lib.indexByte (ls[i].drop p) 32 < 0 then (ls[i].length : Int) else (p : Int) + Lib.indexByte (ls[i].drop p) 32)) r →
    Ev (fun k => spec_RecoverJournal.l1 k (ls.map ofL) out c n (i : Int) (p : Int)) r := by
  have es : sn (ls.map ofL) i = ofL ls[i] := by
    rw [sn_get (by rw [List.length_map]; exact hi), List.getElem_map]
  have c1 : (0 : Int) ≤ (i : Int) := by omega
  have c2 : (i : Int) < ((ls.map ofL).length : Int) := by rw [List.length_map]; omega
  intro d
  induction d with
  | zero =>
    intro p hp h
    have c3 : ¬ (p : Int) < (ls[i].length : Int) := by omega
    rw [List.drop_eq_nil_of_le (by omega), show Lib.indexByte [] 32 = -1 from rfl, if_pos (by decide), show (ls[i].length : Int) = (p : Int) by omega] at h
    apply Ev.succ
    simp only [spec_RecoverJournal.l1, sr_nat, es, ofL_size]
    refine Ev.cond (fun _ => ?_) (fun h' => absurd c1 h')
    refine Ev.cond (fun _ => ?_) (fun h' => absurd c2 h')
    exact Ev.cond (fun h' => absurd h' c3) (fun _ => h)
  | succ d ih =>
    intro p hp h
    have hl : p < ls[i].length := by omega
    have c3 : (p : Int) < (ls[i].length : Int) := by omega
    have c4 : (0 : Int) ≤ (p : Int) := by omega
    rw [List.drop_eq_getElem_cons hl] at h
    apply Ev.succ
    simp only [spec_RecoverJournal.l1, sr_nat, es, ofL_size, ofL_bt hl, w64_succ (show p < 9223372036854775807 by omega)]
    refine Ev.cond (fun _ => ?_) (fun h' => absurd c1 h')
    refine Ev.cond (fun _ => ?_) (fun h' => absurd c2 h')
    refine Ev.cond (fun _ => ?_) (fun h' => absurd c3 h')
    refine Ev.cond (fun _ => ?_) (fun h' => absurd c4 h')
    by_cases h32 : ls[i][p] = 32
    · have e : Lib.indexByte (ls[i][p] :: ls[i].drop (p + 1)) 32 = 0 := by simp [Lib.indexByte, h32]
      rw [e, if_neg (by decide), Int.add_zero] at h
      exact Ev.cond (fun _ => h) (fun h' => absurd (by rw [h32]; rfl) h')
    · have hb2 : (ls[i][p] == 32) = false := beq_eq_false_iff_ne.2 h32
      refine Ev.cond (fun h' => absurd (UInt8.toNat_inj.1 (show (ls[i][p]).toNat = 32 by omega)) h32) (fun _ => ih (p + 1) (by omega) ?_)
      rcases idx_cases 32 (ls[i].drop (p + 1)) with e | ⟨j, e, hj⟩
      · have e2 : Lib.indexByte (ls[i][p] :: ls[i].drop (p + 1)) 32 = -1 := by simp [Lib.indexByte, hb2, e]
        rw [e2, if_pos (by decide)] at h
        rw [e, if_pos (by decide)]
        exact h
      · have hn : ((j : Int) == -1) = false := beq_eq_false_iff_ne.2 (by omega)
        have e2 : Lib.indexByte (ls[i][p] :: ls[i].drop (p + 1)) 32 = (j : Int) + 1 := by simp [Lib.indexByte, hb2, e, hn]
        rw [e2, if_neg (by omega)] at h
        rw [e, if_neg (by omega), show ((p + 1 : Nat) : Int) + (j : Int) = (p : Int) + ((j : Int) + 1) by omega]
        exact h
theorem recS_l0 (ls : List (List UInt8)) (hb : ls.length ≤ 10000) (hz : ∀ l ∈ ls, l.length ≤ 10000) : ∀ (d i : Nat) (out : List ByteArray) (c n : Int), i + d = ls.length → out.length ≤ i → 0 ≤ c ∧ c ≤ 65002 → 0 ≤ n ∧ n ≤ 20000 * (i : Int) →
    Ev (fun k => spec_RecoverJournal.l0 k (ls.map ofL) out c n (i : Int)) (recL (ls.drop i) out c n) := by
  intro d
  induction d with
  | zero =>
    intro i out c n h ho hc hn
    have c1 : ¬ (i : Int) < ((ls.map ofL).length : Int) := by rw [List.length_map]; omega
    rw [List.drop_eq_nil_of_le (by omega)]
    apply Ev.succ
    simp only [spec_RecoverJournal.l0]
    exact Ev.cond (fun h' => absurd h' c1) (fun _ => Ev.now _)
  | succ d ih =>
    intro i out c n h ho hc hn
    have hi : i < ls.length := by omega
    have c1 : (i : Int) < ((ls.map ofL).length : Int) := by rw [List.length_map]; omega
    have hzi := hz _ (List.getElem_mem hi)
    apply Ev.succ
    simp only [spec_RecoverJournal.l0]
    refine Ev.cond (fun _ => ?_) (fun h' => absurd c1 h')
    refine recS_l1 ls hb hi hzi ls[i].length 0 (by omega) ?_
    rw [List.drop_zero]
    simp only [Int.natCast_zero, Int.zero_add]
    refine recS_j2 ls hb hz hi hc (by omega) (by omega) (fun j hj hq => ?_)
    exact ih (i + 1) _ _ _ (by omega) (by rw [List.length_append, List.length_singleton]; omega) (ckL_in _ c hc) (by omega)
theorem splitL_sizes (c : UInt8) : ∀ (l : List UInt8), ∀ x ∈ splitL c l, x.length ≤ l.length
  | [], x, hx => by
    have : x = [] := by simpa [splitL] using hx
    rw [this]; exact Nat.le_refl _
  | b :: l, x, hx => by
    have ih := splitL_sizes c l
    unfold splitL at hx
    rw [List.length_cons]
    by_cases h : b = c
    · rw [if_pos h] at hx
      rcases List.mem_cons.1 hx with rfl | hx
      · exact Nat.zero_le _
      · have := ih x hx; omega
    · rw [if_neg h] at hx
      obtain ⟨y, r, e⟩ := splitL_ne c l
      rw [e] at hx ih
      rcases List.mem_cons.1 (show x ∈ ([b] ++ y) :: r from hx) with rfl | hx
      · have := ih y List.mem_cons_self
        rw [List.length_append, List.length_singleton]; omega
      · have := ih x (List.mem_cons_of_mem _ hx); omega
theorem RecoverS_ev (s : ByteArray) (hs : s.size ≤ 1099511627776) : Ev (fun k => spec_RecoverJournal.f k s) (recR s) := by
  unfold spec_RecoverJournal.f recR
  by_cases h4 : s.size ≤ 4000
  · have c1 : ¬ (s.size : Int) > 4000 := by omega
    rw [if_pos h4]
    refine Ev.cond (fun h' => absurd h' c1) (fun _ => ?_)
    have hl := splitL_length 10 s.data.toList
    have hp := splitL_pos 10 s.data.toList
    rw [size_data] at hl
    have hcut : Ev (fun k => spec_l11Cut.f k s 10) ((splitL 10 s.data.toList).map ofL) := l11Cut_ev s 10 hs
    have hlines : Ev (fun k => spec_l11Lines.f k s) ((splitL 10 s.data.toList).dropLast.map ofL, rdOf ByteArray.empty ((splitL 10 s.data.toList).map ofL) (((splitL 10 s.data.toList).length - 1 : Nat) : Int)) := by
      unfold spec_l11Lines.f
      refine Ev.bind hcut ?_
      rw [List.length_map]
      refine Ev.cond (fun _ => ?_) (fun h' => absurd (show 0 < (splitL 10 s.data.toList).length ∧ (splitL 10 s.data.toList).length ≤ 1099511627776 by omega) h')
      rw [← List.map_take, ← List.dropLast_eq_take]
      exact Ev.now _
    refine Ev.bind hlines ?_
    have h := recS_l0 (splitL 10 s.data.toList).dropLast (by rw [List.length_dropLast]; omega) (fun l hl2 => by
      have := splitL_sizes 10 s.data.toList l (List.dropLast_subset _ hl2)
      rw [size_data] at this; omega) (splitL 10 s.data.toList).dropLast.length 0 [] 0 0 (by omega) (Nat.le_refl _) (by omega) (by omega)
    rw [List.drop_zero] at h
    exact h
  · have c1 : (s.size : Int) > 4000 := by omega
    rw [if_neg h4]
    exact Ev.cond (fun _ => Ev.now _) (fun h' => absurd c1 h')

/-! within -/
theorem within_eq (a b c : Int) : impl_within.f a b c = some (decide (b ≤ a ∧ a ≤ c)) := by
  unfold impl_within.f
  by_cases h : b ≤ a
  · simp [h, ge_iff_le]
  · simp [h, ge_iff_le]

/-! CheckOf -/
theorem CheckOf_ev (s : ByteArray) (hs : s.size ≤ 1099511627776) (c : Int) (hc : 0 ≤ c ∧ c ≤ 65002) : Ev (fun k => impl_CheckOf.f k c s) (ckL c s.data.toList, true) := by
  unfold impl_CheckOf.f
  refine Ev.bind (Ev.const (within_eq _ _ _)) ?_
  rw [decide_eq_true hc]
  exact Ev.cond (fun _ => CheckOf_l0 s hs s.size 0 c (by omega) hc) (fun h' => absurd rfl h')

/-! decI -/
/-- A number in decimal. -/
def decS (n : Int) : ByteArray := ofL (Lib.itoa n)
theorem Decimal_eq (n : Int) (h1 : -9223372036854775808 ≤ n) (h2 : n ≤ 9223372036854775807) : impl_Decimal.f n = some (decS n) := by
  unfold impl_Decimal.f strconv_FormatInt.f
  rw [if_pos ⟨rfl, h1, h2⟩]; rfl

/-! recI -/
theorem IndexByte_eq (s : ByteArray) : strings_IndexByte.f s 10 = some (Lib.indexByte s.data.toList 10) := rfl
theorem Cut_none {l : List UInt8} (h : Lib.indexByte l 32 = -1) : strings_Cut.f (ofL l) (⟨#[32]⟩ : ByteArray) = some (ofL l, (⟨#[]⟩ : ByteArray), false) := by
  have e : stringslite_Index.f (ofL l) (⟨#[32]⟩ : ByteArray) = some (Lib.indexByte l 32) := rfl
  unfold strings_Cut.f stringslite_Cut.f
  rw [e, h, Option.bind_some, if_neg (by decide)]; rfl
theorem Cut_some {l : List UInt8} {i : Nat} (h : Lib.indexByte l 32 = (i : Int)) (hi : i < l.length) (hl : l.length ≤ 1099511627776) : strings_Cut.f (ofL l) (⟨#[32]⟩ : ByteArray) = some (ofL (l.take i), ofL (l.drop (i + 1)), true) := by
  have e : stringslite_Index.f (ofL l) (⟨#[32]⟩ : ByteArray) = some (Lib.indexByte l 32) := rfl
  have e1 : ((⟨#[32]⟩ : ByteArray).size : Int) = 1 := rfl
  unfold strings_Cut.f stringslite_Cut.f
  rw [e, h, Option.bind_some, e1, w64_succ (show i < 9223372036854775807 by omega), ofL_size, if_pos (by omega), if_pos (by omega), if_pos (by omega), if_pos (by omega), if_pos (by omega)]
  simp only [Int.toNat_natCast]
  rw [ofL_ext, ofL_ext, List.drop_zero, Nat.sub_zero, List.take_of_length_le (show (l.drop (i + 1)).length ≤ l.length - (i + 1) by rw [List.length_drop]; omega)]
  rfl
theorem recI_w (a n : Nat) (h : a + n ≤ 4000) : wrap64 ((a : Int) + (n : Int)) = ((a + n : Nat) : Int) ∧ wrap64 ((a : Int) + wrap64 ((n : Int) + 1)) = ((a + n + 1 : Nat) : Int) := by
  refine ⟨w64_add a n (by omega), ?_⟩
  rw [w64_succ (show n < 9223372036854775807 by omega), w64_add a (n + 1) (by omega)]; rfl
theorem recI_l0 (s : ByteArray) (hs : s.size ≤ 4000) : ∀ (d a : Nat) (out : List ByteArray) (c : Int), s.size - a ≤ d → a ≤ s.size → out.length ≤ a → 0 ≤ c ∧ c ≤ 65002 →
    Ev (fun k => impl_RecoverJournal.l0 k s out c (a : Int)) (recL (splitL 10 (s.data.toList.drop a)).dropLast out c (a : Int)) := by
  intro d
  induction d with
  | zero =>
    intro a out c hd ha ho hc
    have c1 : (0 : Int) ≤ (a : Int) := by omega
    have c2 : (a : Int) ≤ (s.size : Int) := by omega
    have hn : s.data.toList.drop a = [] := List.drop_eq_nil_of_le (by rw [size_data]; omega)
    have ex : (s.extract a s.size).data.toList = s.data.toList.drop a := by
      rw [ext_data]
      exact List.take_of_length_le (by rw [List.length_drop, size_data]; omega)
    apply Ev.succ
    simp only [impl_RecoverJournal.l0, IndexByte_eq, Int.toNat_natCast, ex, hn, Option.bind_some]
    refine Ev.cond (fun _ => ?_) (fun h' => absurd c1 h')
    refine Ev.cond (fun _ => ?_) (fun h' => absurd c2 h')
    exact Ev.cond (fun _ => Ev.now _) (fun h' => absurd (show Lib.indexByte [] 10 < 0 by decide) h')
  | succ d ih =>
    intro a out c hd ha ho hc
    have c1 : (0 : Int) ≤ (a : Int) := by omega
    have c2 : (a : Int) ≤ (s.size : Int) := by omega
    have ex : (s.extract a s.size).data.toList = s.data.toList.drop a := by
      rw [ext_data]
      exact List.take_of_length_le (by rw [List.length_drop, size_data]; omega)
    have hlen : (s.data.toList.drop a).length = s.size - a := by rw [List.length_drop, size_data]
    apply Ev.succ
    simp only [impl_RecoverJournal.l0, IndexByte_eq, Int.toNat_natCast, ex, Option.bind_some]
    refine Ev.cond (fun _ => ?_) (fun h' => absurd c1 h')
    refine Ev.cond (fun _ => ?_) (fun h' => absurd c2 h')
    rcases idx_split 10 (s.data.toList.drop a) with ⟨e1, e2⟩ | ⟨n, e1, e2, e3⟩
    · rw [e2, e1]
      exact Ev.cond (fun _ => Ev.now _) (fun h' => absurd (by decide) h')
    · rw [e3, e1]
      rw [hlen] at e2
      have c3 : ¬ (n : Int) < 0 := by omega
      have han : a + n ≤ 4000 := by omega
      have c4 : (a : Int) ≤ ((a + n : Nat) : Int) := by omega
      have c5 : ((a + n : Nat) : Int) ≤ (s.size : Int) := by omega
      have c6 : out.length < 8796093022208 := by omega
      have x1 : s.extract a (a + n) = ofL ((s.data.toList.drop a).take n) := by
        rw [ext_ofL]
        congr 2
        omega
      have hdl : ((s.data.toList.drop a).take n :: splitL 10 ((s.data.toList.drop a).drop (n + 1))).dropLast = (s.data.toList.drop a).take n :: (splitL 10 (s.data.toList.drop (a + n + 1))).dropLast := by
        rw [List.drop_drop, show a + (n + 1) = a + n + 1 by omega]
        obtain ⟨y, r, e⟩ := splitL_ne 10 (s.data.toList.drop (a + n + 1))
        rw [e]; rfl
      rw [hdl]
      obtain ⟨L, hL⟩ : ∃ L, L = (s.data.toList.drop a).take n := ⟨_, rfl⟩
      have hLl : L.length = n := by rw [hL, List.length_take, hlen]; omega
      rw [← hL] at x1 ⊢
      simp only [(recI_w a n han).1, (recI_w a n han).2, Int.toNat_natCast, x1]
      refine Ev.cond (fun h' => absurd h' c3) (fun _ => ?_)
      refine Ev.cond (fun _ => ?_) (fun h' => absurd c4 h')
      refine Ev.cond (fun _ => ?_) (fun h' => absurd c5 h')
      rcases idx_cases 32 L with e | ⟨j, e, hj⟩
      · rw [recL_none e]
        refine Ev.bind (Ev.const (Cut_none e)) ?_
        refine Ev.bind (CheckOf_ev (⟨#[]⟩ : ByteArray) (Nat.zero_le _) c hc) ?_
        exact Ev.cond (fun h' => absurd (show false = true from h') (by decide)) (fun _ => Ev.now _)
      · rw [recL_some e]
        refine Ev.bind (Ev.const (Cut_some e hj (by omega))) ?_
        have hck := ckL_in (L.drop (j + 1)) c hc
        have hk := CheckOf_ev (ofL (L.drop (j + 1))) (by rw [ofL_size, List.length_drop]; omega) c hc
        rw [ofL_data] at hk
        refine Ev.bind hk ?_
        refine Ev.cond (fun _ => ?_) (fun h' => absurd rfl h')
        refine Ev.bind (Ev.const (Decimal_eq _ (by show (-9223372036854775808 : Int) ≤ ckL c (L.drop (j + 1)); omega) (by show ckL c (L.drop (j + 1)) ≤ (9223372036854775807 : Int); omega))) ?_
        by_cases hq : L.take j = Lib.itoa (ckL c (L.drop (j + 1)))
        · rw [if_pos hq]
          have h3 := ih (a + n + 1) (out ++ [ofL (L.drop (j + 1))]) (ckL c (L.drop (j + 1))) (by omega) (by omega) (by rw [List.length_append, List.length_singleton]; omega) hck
          rw [show (a : Int) + ((L.length : Int) + 1) = ((a + n + 1 : Nat) : Int) by omega]
          refine Ev.cond (fun _ => ?_) (fun h' => absurd (itoa_inj_of.2 hq) h')
          exact Ev.cond (fun _ => h3) (fun h' => absurd c6 h')
        · rw [if_neg hq]
          exact Ev.cond (fun h' => absurd (itoa_inj_of.1 h') hq) (fun _ => Ev.now _)
theorem RecoverI_ev (s : ByteArray) : Ev (fun k => impl_RecoverJournal.f k s) (recR s) := by
  unfold impl_RecoverJournal.f recR
  by_cases h4 : s.size ≤ 4000
  · have c1 : ¬ (s.size : Int) > 4000 := by omega
    rw [if_pos h4]
    have h := recI_l0 s h4 s.size 0 [] 0 (by omega) (by omega) (Nat.le_refl _) (by omega)
    rw [List.drop_zero] at h
    exact Ev.cond (fun h' => absurd h' c1) (fun _ => h)
  · have c1 : (s.size : Int) > 4000 := by omega
    rw [if_neg h4]
    exact Ev.cond (fun _ => Ev.now _) (fun h' => absurd c1 h')

/-! markS -/
theorem markText_l0 : ∀ (u : Nat) (out : ByteArray), out.size + u ≤ 2199023255552 → ∃ t, Ev (fun k => laws_markText.l0 k (u : Int) out) t := by
  intro u
  induction u using Nat.strongRecOn with
  | _ u ih =>
    intro out ho
    by_cases h0 : u = 0
    · subst h0
      have c1 : ¬ ((0 : Nat) : Int) > 0 := by omega
      have c2 : 1 + out.size ≤ 9223372036854775807 := by omega
      refine ⟨(⟨#[109]⟩ : ByteArray) ++ out, ?_⟩
      apply Ev.succ
      simp only [laws_markText.l0]
      refine Ev.cond (fun h' => absurd h' c1) (fun _ => ?_)
      exact Ev.cond (fun _ => Ev.now _) (fun h' => absurd c2 h')
    · have c1 : (u : Int) > 0 := by omega
      have ed : Int.tdiv (u : Int) 10 = ((u / 10 : Nat) : Int) := rfl
      have ew : wrap64 ((u / 10 : Nat) : Int) = ((u / 10 : Nat) : Int) := w64 (by omega) (by omega)
      have hz : (strOfNums [(wrap64 (48 + (Int.tmod (u : Int) 10))) % 256]).size = 1 := by
        rw [← size_data]; rfl
      have c2 : (strOfNums [(wrap64 (48 + (Int.tmod (u : Int) 10))) % 256]).size + out.size ≤ 9223372036854775807 := by rw [hz]; omega
      obtain ⟨t, ht⟩ := ih (u / 10) (by omega) (strOfNums [(wrap64 (48 + (Int.tmod (u : Int) 10))) % 256] ++ out) (by rw [ByteArray.size_append, hz]; omega)
      refine ⟨t, ?_⟩
      apply Ev.succ
      simp only [laws_markText.l0, ed, ew]
      refine Ev.cond (fun _ => ?_) (fun h' => absurd c1 h')
      refine Ev.bind (Ev.const rfl) ?_
      exact Ev.cond (fun _ => ht) (fun h' => absurd c2 h')
theorem markText_some (m : Nat) : ∃ t, m ≤ 1099511627776 → Ev (fun k => laws_markText.f k (m : Int)) t := by
  by_cases hm : m ≤ 1099511627776
  · unfold laws_markText.f
    by_cases h0 : (m : Int) ≤ 0
    · exact ⟨_, fun _ => Ev.cond (fun _ => Ev.now _) (fun h' => absurd h0 h')⟩
    · obtain ⟨t, ht⟩ := markText_l0 m (⟨#[]⟩ : ByteArray) (by rw [show (⟨#[]⟩ : ByteArray).size = 0 from rfl]; omega)
      exact ⟨t, fun _ => Ev.cond (fun h' => absurd h' h0) (fun _ => ht)⟩
  · exact ⟨ByteArray.empty, fun h => absurd h hm⟩
/-- The text of a mark. -/
noncomputable def mkT (m : Nat) : ByteArray := Classical.choose (markText_some m)
theorem markText_ev (m : Nat) (hm : m ≤ 1099511627776) : Ev (fun k => laws_markText.f k (m : Int)) (mkT m) := Classical.choose_spec (markText_some m) hm
/-- Texts of marks from a number on. -/
noncomputable def mkS (m : Nat) : Nat → List ByteArray
  | 0 => []
  | n + 1 => mkT m :: mkS (m + 1) n
theorem mkS_length : ∀ (n m : Nat), (mkS m n).length = n
  | 0, _ => rfl
  | n + 1, m => by rw [mkS, List.length_cons, mkS_length]
theorem markS_l0 : ∀ (xs ws : List ByteArray) (m n : Nat), ws.length = n → m + xs.length ≤ 1099511627776 → n + xs.length ≤ 1099511627776 →
    Ev (fun k => laws_markStringS.l0 k (ws ++ xs) (m : Int) (n : Int)) (((m + xs.length : Nat) : Int), ws ++ mkS m xs.length) := by
  intro xs
  induction xs with
  | nil =>
    intro ws m n hw hm hn
    have c1 : ¬ (n : Int) < ((ws ++ []).length : Int) := by rw [List.append_nil]; omega
    apply Ev.succ
    simp only [laws_markStringS.l0]
    exact Ev.cond (fun h' => absurd h' c1) (fun _ => Ev.now _)
  | cons x xs ih =>
    intro ws m n hw hm hn
    rw [List.length_cons] at hm hn
    have c1 : (n : Int) < ((ws ++ x :: xs).length : Int) := by rw [List.length_append, List.length_cons]; omega
    have c2 : (0 : Int) ≤ (n : Int) := by omega
    have h3 := ih (ws ++ [mkT m]) (m + 1) (n + 1) (by rw [List.length_append, List.length_singleton]; omega) (by omega) (by omega)
    rw [List.append_assoc, List.append_assoc, List.singleton_append, List.singleton_append] at h3
    have e : (ws ++ x :: xs).set n (mkT m) = ws ++ mkT m :: xs := set_mid _ _ _ _ _ hw
    rw [List.length_cons, mkS, show m + (xs.length + 1) = m + 1 + xs.length by omega]
    apply Ev.succ
    simp only [laws_markStringS.l0, Int.toNat_natCast, w64_succ (show n < 9223372036854775807 by omega), w64_succ (show m < 9223372036854775807 by omega)]
    refine Ev.cond (fun _ => ?_) (fun h' => absurd c1 h')
    refine Ev.bind (markText_ev m (by omega)) ?_
    rw [e]
    exact Ev.cond (fun _ => h3) (fun h' => absurd c2 h')
theorem markS_ev (xs : List ByteArray) (m : Nat) (hm : m + xs.length ≤ 1099511627776) : Ev (fun k => laws_markStringS.f k xs (m : Int)) (((m + xs.length : Nat) : Int), mkS m xs.length) := markS_l0 xs [] m 0 rfl hm (by omega)
theorem heldS_l0 : ∀ (d : Nat) (ws : List ByteArray) (m n : Nat), ws.length = n → m + d ≤ 1099511627776 → n + d ≤ 1099511627776 →
    Ev (fun k => laws_heldStringS.l0 k (ws ++ mkS m d) (m : Int) (n : Int)) ((m + d : Nat) : Int) := by
  intro d
  induction d with
  | zero =>
    intro ws m n hw hm hn
    have c1 : ¬ (n : Int) < ((ws ++ mkS m 0).length : Int) := by rw [mkS, List.append_nil]; omega
    apply Ev.succ
    simp only [laws_heldStringS.l0]
    exact Ev.cond (fun h' => absurd h' c1) (fun _ => Ev.now _)
  | succ d ih =>
    intro ws m n hw hm hn
    rw [mkS]
    have c1 : (n : Int) < ((ws ++ mkT m :: mkS (m + 1) d).length : Int) := by rw [List.length_append, List.length_cons]; omega
    have c2 : (0 : Int) ≤ (n : Int) := by omega
    have h3 := ih (ws ++ [mkT m]) (m + 1) (n + 1) (by rw [List.length_append, List.length_singleton]; omega) (by omega) (by omega)
    rw [List.append_assoc, List.singleton_append] at h3
    have e : sn (ws ++ mkT m :: mkS (m + 1) d) n = mkT m := by
      unfold sn
      rw [List.getD_eq_getElem?_getD, List.getElem?_append_right (by omega), hw, Nat.sub_self]; rfl
    rw [show m + (d + 1) = m + 1 + d by omega]
    apply Ev.succ
    simp only [laws_heldStringS.l0, sr_nat, w64_succ (show n < 9223372036854775807 by omega), w64_succ (show m < 9223372036854775807 by omega), e]
    refine Ev.cond (fun _ => ?_) (fun h' => absurd c1 h')
    refine Ev.cond (fun _ => ?_) (fun h' => absurd c2 h')
    refine Ev.bind (markText_ev m (by omega)) ?_
    exact Ev.cond (fun _ => h3) (fun h' => absurd rfl h')
theorem heldS_ev (m d : Nat) (hm : m + d ≤ 1099511627776) : Ev (fun k => laws_heldStringS.f k (mkS m d) (m : Int)) ((m + d : Nat) : Int) := heldS_l0 d [] m 0 rfl hm (by omega)

/-! eqStringS -/
theorem eqStringS_l0 (xs ys : List ByteArray) (hl : xs.length = ys.length) (hn : xs.length ≤ 1099511627776) : ∀ d n, n + d = xs.length → Ev (fun k => laws_eqStringS.l0 k xs ys (n : Int)) (decide (xs.drop n = ys.drop n)) := by
  intro d
  induction d with
  | zero =>
    intro n h
    have c1 : ¬ (n : Int) < (xs.length : Int) := by omega
    rw [List.drop_eq_nil_of_le (show xs.length ≤ n by omega), List.drop_eq_nil_of_le (show ys.length ≤ n by omega), decide_eq_true rfl]
    apply Ev.succ
    simp only [laws_eqStringS.l0]
    exact Ev.cond (fun h' => absurd h' c1) (fun _ => Ev.now _)
  | succ d ih =>
    intro n h
    have c1 : (n : Int) < (xs.length : Int) := by omega
    have c2 : (0 : Int) ≤ (n : Int) := by omega
    have c3 : (n : Int) < (ys.length : Int) := by omega
    have h3 := ih (n + 1) (by omega)
    rw [drop_sn (show n < xs.length by omega), drop_sn (show n < ys.length by omega)]
    apply Ev.succ
    simp only [laws_eqStringS.l0, sr_nat, w64_succ (show n < 9223372036854775807 by omega), List.cons.injEq]
    refine Ev.cond (fun _ => ?_) (fun h' => absurd c1 h')
    refine Ev.cond (fun _ => ?_) (fun h' => absurd c2 h')
    refine Ev.cond (fun _ => ?_) (fun h' => absurd c3 h')
    by_cases hc : (sn xs n) = (sn ys n)
    · refine Ev.cond (fun _ => ?_) (fun h' => absurd (by rw [hc]) h')
      simp only [hc, true_and]; exact h3
    · refine Ev.cond (fun h' => absurd (bytes_ext h') hc) (fun _ => ?_)
      simp only [hc, false_and, decide_false]; exact Ev.now false
theorem eqStringS_ev (xs ys : List ByteArray) (hn : xs.length ≤ 1099511627776) : Ev (fun k => laws_eqStringS.f k xs ys) (decide (xs = ys)) := by
  unfold laws_eqStringS.f
  by_cases hl : xs.length = ys.length
  · have c1 : (xs.length : Int) = (ys.length : Int) := by omega
    exact Ev.cond (fun _ => eqStringS_l0 xs ys hl hn xs.length 0 (by omega)) (fun h' => absurd c1 h')
  · have c1 : ¬ (xs.length : Int) = (ys.length : Int) := by omega
    rw [decide_eq_false (fun h => hl (by rw [h]))]
    exact Ev.cond (fun h' => absurd h' c1) (fun _ => Ev.now false)
theorem eqStringS_same (xs : List ByteArray) (hn : xs.length ≤ 1099511627776) : Ev (fun k => laws_eqStringS.f k xs xs) true := by
  have h := eqStringS_ev xs xs hn
  rw [decide_eq_true rfl] at h
  exact h

theorem recL_length : ∀ (ls : List (List UInt8)) (out : List ByteArray) (c n : Int), (recL ls out c n).1.length ≤ out.length + ls.length
  | [], out, c, n => Nat.le_refl _
  | l :: r, out, c, n => by
    unfold recL
    rw [List.length_cons]
    split
    · show out.length ≤ _; omega
    · split
      · have h := recL_length r (out ++ [ofL (l.drop ((Lib.indexByte l 32).toNat + 1))]) (ckL c (l.drop ((Lib.indexByte l 32).toNat + 1))) (n + ((l.length : Int) + 1))
        rw [List.length_append, List.length_singleton] at h
        omega
      · show out.length ≤ _; omega
theorem recR_length (s : ByteArray) : (recR s).1.length ≤ 5000 := by
  unfold recR
  by_cases h4 : s.size ≤ 4000
  · rw [if_pos h4]
    have h := recL_length (splitL 10 s.data.toList).dropLast [] 0 0
    have hl := splitL_length 10 s.data.toList
    rw [size_data] at hl
    rw [List.length_dropLast, List.length_nil] at h
    omega
  · rw [if_neg h4]; exact Nat.zero_le _
theorem FnExactRecoverJournal : laws_FnExactRecoverJournal.Pure := by
  intro s hs
  refine Ev.rounds ?_
  unfold laws_FnExactRecoverJournal.f
  by_cases hl : (s.size : Int) > 1048576
  · exact Ev.cond (fun _ => Ev.now _) (fun h' => absurd hl h')
  refine Ev.cond (fun h' => absurd h' hl) (fun _ => ?_)
  have hS := RecoverS_ev s (by omega)
  have hI := RecoverI_ev s
  have hr := recR_length s
  obtain ⟨⟨l, n, b⟩, hR⟩ : ∃ x, recR s = x := ⟨_, rfl⟩
  rw [hR] at hS hI hr
  have hr : l.length ≤ 5000 := hr
  refine Ev.bind hS (Ev.bind hI (Ev.bind (eqStringS_same l (by omega)) ?_))
  refine Ev.cond (fun _ => ?_) (fun h' => absurd (by trivial) h')
  refine Ev.cond (fun _ => ?_) (fun h' => absurd (by trivial) h')
  rw [bne_self_eq_false]
  have hm : Ev (fun k => laws_markStringS.f k l 1) (((1 + l.length : Nat) : Int), mkS 1 l.length) := markS_ev l 1 (by omega)
  have hh : Ev (fun k => laws_heldStringS.f k (mkS 1 l.length) 1) ((1 + l.length : Nat) : Int) := heldS_ev 1 l.length (by omega)
  have c1 : ¬ ((1 + l.length : Nat) : Int) < 0 := by omega
  apply Ev.succ
  simp only [laws_FnExactRecoverJournal.j0]
  refine Ev.cond (fun h' => absurd h' (by decide)) (fun _ => ?_)
  refine Ev.bind hm (Ev.bind hh ?_)
  refine Ev.cond (fun h' => absurd h' c1) (fun _ => ?_)
  refine Ev.cond (fun _ => ?_) (fun h' => absurd (by trivial) h')
  refine Ev.bind hI (Ev.bind (eqStringS_same l (by omega)) ?_)
  refine Ev.cond (fun _ => ?_) (fun h' => absurd (by trivial) h')
  refine Ev.cond (fun _ => ?_) (fun h' => absurd (by trivial) h')
  rw [bne_self_eq_false]
  apply Ev.succ
  simp only [laws_FnExactRecoverJournal.j1]
  refine Ev.cond (fun h' => absurd h' (by decide)) (fun _ => ?_)
  refine Ev.bind hh ?_
  refine Ev.cond (fun h' => absurd h' c1) (fun _ => ?_)
  exact Ev.cond (fun _ => Ev.now _) (fun h' => absurd (by trivial) h')

end Go.Proofs.YtohdepanfnaddaaDoor.Pure
