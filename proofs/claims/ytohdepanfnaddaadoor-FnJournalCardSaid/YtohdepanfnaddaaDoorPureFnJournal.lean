/- For all codes: a beginning of a journal, cut or with a byte changed, is recovered; no complete line before the place is lost. -/
import Derived.Test.YtohdepanfnaddaaDoorQFnJournalx7
import Derived.Test.YtohdepanfnaddaaDoorBase
namespace Go.Proofs.YtohdepanfnaddaaDoor.Pure
open Go.RowKit Go.Proofs.YtohdepanfnaddaaDoor.QFnJournal Go.Proofs.YtohdepanfnaddaaDoor.Base Go.Proofs.YtohdepanfnaddaaDoorW.PrintWords Go.Proofs.YtohdepanfnaddaaDoorW.PrintLast Go.Proofs.YtohdepanfnaddaaDoorW.PrintMore
set_option linter.unusedVariables false
set_option linter.unusedSimpArgs false

/-! strL -/
/-- A text of a list, by its place. -/
def sn (xs : List ByteArray) (n : Nat) : ByteArray := xs.getD n ByteArray.empty
theorem sr_nat (xs : List ByteArray) (n : Nat) : rdOf ByteArray.empty xs (n : Int) = sn xs n := by unfold rdOf sn; rw [Int.toNat_natCast]
theorem sn_get {xs : List ByteArray} {n : Nat} (h : n < xs.length) : sn xs n = xs[n] := by
 unfold sn
 rw [List.getD_eq_getElem?_getD, List.getElem?_eq_getElem h]; rfl
theorem sn_mem {xs : List ByteArray} {n : Nat} (h : n < xs.length) : sn xs n ∈ xs := by rw [sn_get h]; exact List.getElem_mem h
theorem drop_sn {xs : List ByteArray} {n : Nat} (h : n < xs.length) : xs.drop n = sn xs n :: xs.drop (n + 1) := by
 rw [sn_get h, List.drop_eq_getElem_cons h]
theorem take_sn {xs : List ByteArray} {n : Nat} (h : n < xs.length) : xs.take (n + 1) = xs.take n ++ [sn xs n] := by
 rw [sn_get h, List.take_succ_eq_append_getElem h]
/-- The sizes of texts together. -/
def totS : List ByteArray → Nat
 | [] => 0
 | x :: r => x.size + totS r
theorem totS_mem {xs : List ByteArray} {x : ByteArray} (h : x ∈ xs) : x.size ≤ totS xs := by
 induction xs with
 | nil => exact absurd h (by simp)
 | cons y xs ih =>
  unfold totS
  rcases List.mem_cons.1 h with rfl | h
  ·omega
  ·have := ih h; omega
theorem sn_size (xs : List ByteArray) (n : Nat) : (sn xs n).size ≤ totS xs := by
 by_cases h : n < xs.length
 ·exact totS_mem (sn_mem h)
 ·have e : sn xs n = ByteArray.empty := by
   unfold sn
   rw [List.getD_eq_getElem?_getD, List.getElem?_eq_none (by omega)]; rfl
  rw [e]; exact Nat.zero_le _
theorem bytes_ext {a b : ByteArray} (h : a.toList = b.toList) : a = b := by
 rw [Lib.toList_data, Lib.toList_data] at h
 exact ByteArray.ext (Array.ext' h)
instance decMemS : (x : ByteArray) → (xs : List ByteArray) → Decidable (x ∈ xs)
 | x, [] => isFalse (by simp)
 | x, y :: r => if h : x = y then isTrue (by rw [h]; exact List.mem_cons_self) else match decMemS x r with
  | isTrue h2 => isTrue (List.mem_cons_of_mem _ h2)
  | isFalse h2 => isFalse (fun h3 => by rcases List.mem_cons.1 h3 with h3 | h3; exact h h3; exact h2 h3)

/-! byt -/
/-- A text of bytes. -/
def ofL (l : List UInt8) : ByteArray := ⟨l.toArray⟩
theorem ofL_data (l : List UInt8) : (ofL l).data.toList = l := rfl
theorem ofL_list (l : List UInt8) : (ofL l).toList = l := by rw [Lib.toList_data, ofL_data]
theorem ofL_size (l : List UInt8) : (ofL l).size = l.length := by rw [← size_data, ofL_data]
theorem ofL_of (s : ByteArray) : ofL s.data.toList = s := ByteArray.ext (Array.ext' rfl)
theorem ofL_inj {a b : List UInt8} (h : ofL a = ofL b) : a = b := by rw [← ofL_data a, h, ofL_data]
theorem ext_data (s : ByteArray) (a b : Nat) : (s.extract a b).data.toList = (s.data.toList.drop a).take (b - a) := by
 rw [ByteArray.data_extract, Array.toList_extract]
theorem ext_ofL (s : ByteArray) (a b : Nat) : s.extract a b = ofL ((s.data.toList.drop a).take (b - a)) := by
 rw [← ext_data, ofL_of]
theorem ofL_ext (l : List UInt8) (a b : Nat) : (ofL l).extract a b = ofL ((l.drop a).take (b - a)) := by rw [ext_ofL, ofL_data]
theorem ofL_app (a b : List UInt8) : ofL a ++ ofL b = ofL (a ++ b) := by
 apply ByteArray.ext
 rw [ByteArray.data_append]
 apply Array.ext'
 rw [Array.toList_append]; rfl
theorem ofL_bt {l : List UInt8} {i : Nat} (h : i < l.length) : bt (ofL l) (i : Int) = ((l[i]).toNat : Int) := by
 rw [bt_nat _ _ (by rw [ofL_size]; exact h)]; rfl

/-! ckL -/
/-- The check number of bytes. -/
def ckL (c : Int) (l : List UInt8) : Int := l.foldl (fun c b => (3001 * c + (b.toNat : Int) + 5) % 65003) c
theorem ckL_cons (c : Int) (b : UInt8) (l : List UInt8) : ckL c (b :: l) = ckL ((3001 * c + (b.toNat : Int) + 5) % 65003) l := rfl
theorem ckL_in : ∀ (l : List UInt8) (c : Int), 0 ≤ c ∧ c ≤ 65002 → 0 ≤ ckL c l ∧ ckL c l ≤ 65002
 | [], c, h => h
 | b :: l, c, h => by
  rw [ckL_cons]
  exact ckL_in l _ (by omega)
theorem ck_step {c : Int} (h : 0 ≤ c ∧ c ≤ 65002) (b : UInt8) : Int.tmod (wrap64 ((wrap64 ((wrap64 (3001 * c)) + (wrap64 ((b.toNat : Nat) : Int)))) + 5)) 65003 = (3001 * c + (b.toNat : Int) + 5) % 65003 := by
 have hb : b.toNat < 256 := b.toNat_lt
 rw [w64 (show -9223372036854775808 ≤ 3001 * c by omega) (by omega), w64 (show -9223372036854775808 ≤ ((b.toNat : Nat) : Int) by omega) (by omega), w64 (show -9223372036854775808 ≤ 3001 * c + ((b.toNat : Nat) : Int) by omega) (by omega), w64 (by omega) (by omega)]
 exact Int.tmod_eq_emod_of_nonneg (by omega)
theorem CheckOf_l0 (s : ByteArray) (hs : s.size ≤ 1099511627776) : ∀ d i c, i + d = s.size → 0 ≤ c ∧ c ≤ 65002 → Ev (fun k => impl_CheckOf.l0 k c s (s.size : Int) (i : Int)) (ckL c (s.data.toList.drop i), true) := by
 intro d
 induction d with
 | zero =>
  intro i c h hc
  have c1 : ¬ (i : Int) < (s.size : Int) := by omega
  rw [List.drop_eq_nil_of_le (by rw [size_data]; omega)]
  apply Ev.succ
  simp only [impl_CheckOf.l0]
  exact Ev.cond (fun h' => absurd h' c1) (fun _ => Ev.now _)
 | succ d ih =>
  intro i c h hc
  have hl : i < s.size := by omega
  have c1 : (i : Int) < (s.size : Int) := by omega
  have c2 : (0 : Int) ≤ (i : Int) := by omega
  have h3 := ih (i + 1) ((3001 * c + (s[i].toNat : Int) + 5) % 65003) (by omega) (by omega)
  rw [drop_data hl, ckL_cons]
  apply Ev.succ
  simp only [impl_CheckOf.l0, w64_succ (show i < 9223372036854775807 by omega), bt_nat s i hl, ck_step hc]
  refine Ev.cond (fun _ => ?_) (fun h' => absurd c1 h')
  refine Ev.cond (fun _ => ?_) (fun h' => absurd c2 h')
  exact Ev.cond (fun _ => h3) (fun h' => absurd c1 h')

/-! decD -/
/-- The digits of a number, the last one first; none of 0. -/
def revD (u : Nat) : List Int := if h : u = 0 then [] else (48 + ((u % 10 : Nat) : Int)) :: revD (u / 10)
termination_by u
decreasing_by omega
theorem revD_zero : revD 0 = [] := by unfold revD; rfl
theorem revD_pos {u : Nat} (h : u ≠ 0) : revD u = (48 + ((u % 10 : Nat) : Int)) :: revD (u / 10) := by
 rw [revD, dif_neg h]
theorem revD_dec (u : Nat) (h : u ≠ 0) : Lib.decDigits u = (revD u).reverse.map (fun n => UInt8.ofNat n.toNat) := by
 induction u using Nat.strongRecOn with
 | _ u ih =>
  rw [Lib.decDigits]
  by_cases h10 : u < 10
  ·rw [dif_pos h10, revD_pos h, Nat.mod_eq_of_lt h10, Nat.div_eq_of_lt h10, revD_zero]
   show _ = [UInt8.ofNat (48 + (u : Int)).toNat]
   congr 2
  ·rw [dif_neg h10, revD_pos h, ih (u / 10) (by omega) (by omega), List.reverse_cons, List.map_append]
   congr 2
theorem revD_range (u : Nat) : ∀ z ∈ revD u, 0 ≤ z ∧ z ≤ 255 := by
 induction u using Nat.strongRecOn with
 | _ u ih =>
  by_cases h : u = 0
  ·subst h; rw [revD_zero]; intro z hz; exact absurd hz (by simp)
  ·rw [revD_pos h]
   intro z hz
   rcases List.mem_cons.1 hz with rfl | hz
   ·omega
   ·exact ih (u / 10) (by omega) z hz
theorem revD_length (u : Nat) : (revD u).length ≤ u := by
 induction u using Nat.strongRecOn with
 | _ u ih =>
  by_cases h : u = 0
  ·subst h; rw [revD_zero]; exact Nat.le_refl _
  ·rw [revD_pos h, List.length_cons]
   have := ih (u / 10) (by omega)
   omega
theorem revD_len20 : ∀ (m u : Nat), u < 10 ^ m → (revD u).length ≤ m
 | 0, u, h => by
  obtain rfl : u = 0 := by simpa using h
  rw [revD_zero]; exact Nat.le_refl _
 | m + 1, u, h => by
  by_cases h0 : u = 0
  ·subst h0; rw [revD_zero]; exact Nat.zero_le _
  ·rw [revD_pos h0, List.length_cons]
   have := revD_len20 m (u / 10) (by rw [Nat.pow_succ] at h; omega)
   omega

/-! jrn -/
theorem decDigits_len (u : Nat) (h : u < 10 ^ 20) : 1 ≤ (Lib.decDigits u).length ∧ (Lib.decDigits u).length ≤ 20 := by
 by_cases h0 : u = 0
 ·subst h0
  rw [Lib.decDigits]
  exact ⟨Nat.le_refl _, by decide⟩
 ·have e := revD_dec u h0
  have h1 := revD_len20 20 u h
  rw [e, List.length_map, List.length_reverse]
  refine ⟨?_, h1⟩
  rw [revD_pos h0, List.length_cons]; omega
theorem itoa_ck (c : Int) (h : 0 ≤ c ∧ c ≤ 65002) : 1 ≤ (Lib.itoa c).length ∧ (Lib.itoa c).length ≤ 20 := by
 unfold Lib.itoa
 rw [if_neg (by omega)]
 exact decDigits_len _ (Nat.lt_of_le_of_lt (show c.toNat ≤ 65002 by omega) (by decide))
/-- A line of a journal. -/
def piece (c : Int) (x : ByteArray) : ByteArray := ((ofL (Lib.itoa (ckL c x.data.toList)) ++ (⟨#[32]⟩ : ByteArray)) ++ x) ++ (⟨#[10]⟩ : ByteArray)
theorem piece_size (c : Int) (hc : 0 ≤ c ∧ c ≤ 65002) (x : ByteArray) : x.size + 3 ≤ (piece c x).size ∧ (piece c x).size ≤ x.size + 22 := by
 have h := itoa_ck (ckL c x.data.toList) (ckL_in _ c hc)
 unfold piece
 rw [ByteArray.size_append, ByteArray.size_append, ByteArray.size_append, ofL_size, show (⟨#[32]⟩ : ByteArray).size = 1 from rfl, show (⟨#[10]⟩ : ByteArray).size = 1 from rfl]
 omega
/-- The journal of lines behind a text. -/
def jn : List ByteArray → Int → ByteArray → ByteArray
 | [], _, a => a
 | x :: r, c, a => jn r (ckL c x.data.toList) (a ++ piece c x)
/-- How many bytes lines have at least in a journal. -/
def sz3 : List ByteArray → Nat
 | [] => 0
 | x :: r => (x.size + 3) + sz3 r
theorem jn_size : ∀ (l : List ByteArray) (c : Int) (a : ByteArray), 0 ≤ c ∧ c ≤ 65002 → a.size + sz3 l ≤ (jn l c a).size ∧ (jn l c a).size ≤ a.size + totS l + 22 * l.length
 | [], c, a, _ => ⟨Nat.le_refl _, Nat.le_refl _⟩
 | x :: r, c, a, hc => by
  have ih := jn_size r (ckL c x.data.toList) (a ++ piece c x) (ckL_in _ c hc)
  have hp := piece_size c hc x
  rw [ByteArray.size_append] at ih
  unfold jn sz3 totS
  rw [List.length_cons]
  omega
/-- No line has a newline. -/
def noNL (l : List ByteArray) : Bool := l.all fun x => decide (Lib.indexByte x.data.toList 10 < 0)
theorem noNL_cons (x : ByteArray) (l : List ByteArray) : noNL (x :: l) = (decide (Lib.indexByte x.data.toList 10 < 0) && noNL l) := rfl
/-- The journal, if there is one. -/
def jR (xs : List ByteArray) : ByteArray × Bool := if noNL xs = true ∧ (jn xs 0 (⟨#[]⟩ : ByteArray)).size ≤ 4000 then (jn xs 0 (⟨#[]⟩ : ByteArray), true) else ((⟨#[]⟩ : ByteArray), false)

/-! within -/
theorem within_eq (a b c : Int) : impl_within.f a b c = some (decide (b ≤ a ∧ a ≤ c)) := by
 unfold impl_within.f
 by_cases h : b ≤ a
 ·simp [h, ge_iff_le]
 ·simp [h, ge_iff_le]

/-! CheckOf -/
theorem CheckOf_ev (s : ByteArray) (hs : s.size ≤ 1099511627776) (c : Int) (hc : 0 ≤ c ∧ c ≤ 65002) : Ev (fun k => impl_CheckOf.f k c s) (ckL c s.data.toList, true) := by
 unfold impl_CheckOf.f
 refine Ev.bind (Ev.const (within_eq _ _ _)) ?_
 rw [decide_eq_true hc]
 exact Ev.cond (fun _ => CheckOf_l0 s hs s.size 0 c (by omega) hc) (fun h' => absurd rfl h')

/-! decI -/
/-- A number in decimal. -/
def decS (n : Int) : ByteArray := ofL (Lib.itoa n)
theorem Decimal_eq (n : Int) (h1 : -9223372036854775808 ≤ n) (h2 : n ≤ 9223372036854775807) : impl_Decimal.f n = some (decS n) := by
 unfold impl_Decimal.f strconv_FormatInt.f
 rw [if_pos ⟨rfl, h1, h2⟩]; rfl

/-! split -/
def attach (p : List UInt8) : List (List UInt8) → List (List UInt8)
 | [] => [p]
 | h :: r => (p ++ h) :: r
/-- The parts between marks. -/
def splitL (c : UInt8) : List UInt8 → List (List UInt8)
 | [] => [[]]
 | b :: l => if b = c then [] :: splitL c l else attach [b] (splitL c l)
theorem attach_attach (p q : List UInt8) (s : List (List UInt8)) : attach p (attach q s) = attach (p ++ q) s := by
 cases s with
 | nil => rfl
 | cons h r => show (p ++ (q ++ h)) :: r = _; rw [← List.append_assoc]; rfl
theorem splitL_ne (c : UInt8) (l : List UInt8) : ∃ h r, splitL c l = h :: r := by
 cases l with
 | nil => exact ⟨[], [], rfl⟩
 | cons b l =>
  unfold splitL
  by_cases h : b = c
  ·rw [if_pos h]; exact ⟨_, _, rfl⟩
  ·rw [if_neg h]
   cases splitL c l with
   | nil => exact ⟨_, _, rfl⟩
   | cons x y => exact ⟨_, _, rfl⟩
theorem attach_nil (c : UInt8) (l : List UInt8) : attach [] (splitL c l) = splitL c l := by
 obtain ⟨h, r, e⟩ := splitL_ne c l
 rw [e]; rfl
theorem splitL_length (c : UInt8) : ∀ l, (splitL c l).length ≤ l.length + 1
 | [] => Nat.le_refl _
 | b :: l => by
  have ih := splitL_length c l
  unfold splitL
  by_cases h : b = c
  ·rw [if_pos h, List.length_cons, List.length_cons]; omega
  ·rw [if_neg h]
   obtain ⟨x, y, e⟩ := splitL_ne c l
   rw [e] at ih ⊢
   show ((_ : List UInt8) :: y).length ≤ _
   rw [List.length_cons] at ih ⊢
   rw [List.length_cons]; omega
theorem splitL_pos (c : UInt8) (l : List UInt8) : 0 < (splitL c l).length := by
 obtain ⟨h, r, e⟩ := splitL_ne c l
 rw [e, List.length_cons]; omega
theorem idx_split (c : UInt8) : ∀ l : List UInt8, (Lib.indexByte l c = -1 ∧ splitL c l = [l]) ∨ ∃ n : Nat, Lib.indexByte l c = (n : Int) ∧ n < l.length ∧ splitL c l = l.take n :: splitL c (l.drop (n + 1))
 | [] => .inl ⟨rfl, rfl⟩
 | b :: l => by
  by_cases h : b = c
  ·refine .inr ⟨0, ?_, by rw [List.length_cons]; omega, ?_⟩
   ·simp [Lib.indexByte, h]
   ·show splitL c (b :: l) = [] :: splitL c l
    rw [splitL, if_pos h]
  ·have hb : (b == c) = false := beq_eq_false_iff_ne.2 h
   rcases idx_split c l with ⟨e1, e2⟩ | ⟨n, e1, e2, e3⟩
   ·refine .inl ⟨?_, ?_⟩
    ·simp [Lib.indexByte, hb, e1]
    ·unfold splitL
     rw [if_neg h, e2]; rfl
   ·refine .inr ⟨n + 1, ?_, by rw [List.length_cons]; omega, ?_⟩
    ·have hn : ((n : Int) == -1) = false := beq_eq_false_iff_ne.2 (by omega)
     simp [Lib.indexByte, hb, e1, hn]
    ·show splitL c (b :: l) = (b :: l.take n) :: splitL c (l.drop (n + 1))
     rw [splitL, if_neg h, e3]; rfl
theorem idx_cases (c : UInt8) (l : List UInt8) : Lib.indexByte l c = -1 ∨ ∃ n : Nat, Lib.indexByte l c = (n : Int) ∧ n < l.length := by
 rcases idx_split c l with ⟨h, _⟩ | ⟨n, h, h2, _⟩
 ·exact .inl h
 ·exact .inr ⟨n, h, h2⟩

/-! jrnI -/
theorem Contains_eq (x : ByteArray) : strings_Contains.f x (⟨#[10]⟩ : ByteArray) = some (decide (0 ≤ Lib.indexByte x.data.toList 10)) := rfl
theorem jrnI_l0 (xs : List ByteArray) (hn : xs.length ≤ 1099511627776) (hs : totS xs ≤ 1099511627776) : ∀ (d i : Nat) (a : ByteArray) (c : Int), i + d = xs.length → a.size ≤ 4000 → 0 ≤ c ∧ c ≤ 65002 →
 Ev (fun k => impl_JournalOf.l0 k xs a c (i : Int)) (if noNL (xs.drop i) = true ∧ (jn (xs.drop i) c a).size ≤ 4000 then (jn (xs.drop i) c a, true) else ((⟨#[]⟩ : ByteArray), false)) := by
 intro d
 induction d with
 | zero =>
  intro i a c h ha hc
  have c1 : ¬ (i : Int) < (xs.length : Int) := by omega
  rw [List.drop_eq_nil_of_le (by omega), if_pos ⟨rfl, ha⟩]
  apply Ev.succ
  simp only [impl_JournalOf.l0]
  exact Ev.cond (fun h' => absurd h' c1) (fun _ => Ev.now _)
 | succ d ih =>
  intro i a c h ha hc
  have hl : i < xs.length := by omega
  have c1 : (i : Int) < (xs.length : Int) := by omega
  have c2 : (0 : Int) ≤ (i : Int) := by omega
  rw [drop_sn hl, noNL_cons]
  have hz := Nat.le_trans (sn_size xs i) hs
  obtain ⟨x, hx⟩ : ∃ x, sn xs i = x := ⟨_, rfl⟩
  rw [hx] at hz ⊢
  have hck := ckL_in x.data.toList c hc
  have hk := CheckOf_ev x hz c hc
  have hd := Decimal_eq (ckL c x.data.toList) (by omega) (by omega)
  have hi := itoa_ck _ hck
  have hp := piece_size c hc x
  have hjs := jn_size (xs.drop (i + 1)) (ckL c x.data.toList) (a ++ piece c x) hck
  have c3 : (decS (ckL c x.data.toList)).size + 1 + x.size + 1 ≤ 9223372036854775807 := by
   unfold decS
   rw [ofL_size]; omega
  have c4 : a.size + (piece c x).size ≤ 140737488355328 := by omega
  apply Ev.succ
  simp only [impl_JournalOf.l0, sr_nat, hx, w64_succ (show i < 9223372036854775807 by omega)]
  refine Ev.cond (fun _ => ?_) (fun h' => absurd c1 h')
  refine Ev.cond (fun _ => ?_) (fun h' => absurd c2 h')
  refine Ev.bind (Ev.const (Contains_eq x)) ?_
  by_cases hnl : 0 ≤ Lib.indexByte x.data.toList 10
  ·rw [decide_eq_true hnl, decide_eq_false (show ¬ Lib.indexByte x.data.toList 10 < 0 by omega), Bool.false_and, if_neg (fun h => absurd h.1 (by decide))]
   exact Ev.cond (fun _ => Ev.now _) (fun h' => absurd rfl h')
  ·rw [decide_eq_false hnl, decide_eq_true (show Lib.indexByte x.data.toList 10 < 0 by omega), Bool.true_and]
   refine Ev.cond (fun h' => absurd h' (by decide)) (fun _ => ?_)
   refine Ev.bind hk ?_
   refine Ev.bind (Ev.const hd) ?_
   refine Ev.cond (fun _ => ?_) (fun h' => absurd c3 h')
   refine Ev.cond (fun _ => ?_) (fun h' => absurd c4 h')
   have hsz : (a ++ piece c x).size = a.size + (piece c x).size := ByteArray.size_append
   by_cases h4 : (a ++ piece c x).size ≤ 4000
   ·have c5 : ¬ ((a ++ piece c x).size : Int) > 4000 := by omega
    exact Ev.cond (fun h' => absurd h' c5) (fun _ => ih (i + 1) (a ++ piece c x) _ (by omega) h4 hck)
   ·have c5 : ((a ++ piece c x).size : Int) > 4000 := by omega
    rw [if_neg (fun h => by
     have h2 : (jn (xs.drop (i + 1)) (ckL c x.data.toList) (a ++ piece c x)).size ≤ 4000 := h.2
     omega)]
    exact Ev.cond (fun _ => Ev.now _) (fun h' => absurd c5 h')
theorem JournalI_ev (xs : List ByteArray) (hn : xs.length ≤ 1099511627776) (hs : totS xs ≤ 1099511627776) : Ev (fun k => impl_JournalOf.f k xs) (jR xs) := by
 have h := jrnI_l0 xs hn hs xs.length 0 (⟨#[]⟩ : ByteArray) 0 (by omega) (Nat.zero_le _) (by omega)
 rw [List.drop_zero] at h
 exact h

/-! recL -/
/-- What is recovered of lines. -/
def recL : List (List UInt8) → List ByteArray → Int → Int → List ByteArray × Int × Bool
 | [], out, _, n => (out, n, true)
 | l :: r, out, c, n => if Lib.indexByte l 32 < 0 then (out, n, true) else
  if l.take (Lib.indexByte l 32).toNat = Lib.itoa (ckL c (l.drop ((Lib.indexByte l 32).toNat + 1))) then
   recL r (out ++ [ofL (l.drop ((Lib.indexByte l 32).toNat + 1))]) (ckL c (l.drop ((Lib.indexByte l 32).toNat + 1))) (n + ((l.length : Int) + 1))
  else (out, n, true)
theorem recL_none {l : List UInt8} (h : Lib.indexByte l 32 = -1) (r : List (List UInt8)) (out : List ByteArray) (c n : Int) : recL (l :: r) out c n = (out, n, true) := by
 unfold recL
 rw [h, if_pos (by decide)]
theorem recL_some {l : List UInt8} {i : Nat} (h : Lib.indexByte l 32 = (i : Int)) (r : List (List UInt8)) (out : List ByteArray) (c n : Int) :
 recL (l :: r) out c n = if l.take i = Lib.itoa (ckL c (l.drop (i + 1))) then recL r (out ++ [ofL (l.drop (i + 1))]) (ckL c (l.drop (i + 1))) (n + ((l.length : Int) + 1)) else (out, n, true) := by
 rw [recL, h, if_neg (by omega), Int.toNat_natCast]
/-- The reader's answer. -/
def recR (s : ByteArray) : List ByteArray × Int × Bool := if s.size ≤ 4000 then recL (splitL 10 s.data.toList).dropLast [] 0 0 else ([], 0, false)
theorem itoa_inj_of {n : Int} {l : List UInt8} : (ofL l).toList = (ofL (Lib.itoa n)).toList ↔ l = Lib.itoa n := by rw [ofL_list, ofL_list]

/-! recI -/
theorem IndexByte_eq (s : ByteArray) : strings_IndexByte.f s 10 = some (Lib.indexByte s.data.toList 10) := rfl
theorem Cut_none {l : List UInt8} (h : Lib.indexByte l 32 = -1) : strings_Cut.f (ofL l) (⟨#[32]⟩ : ByteArray) = some (ofL l, (⟨#[]⟩ : ByteArray), false) := by
 have e : stringslite_Index.f (ofL l) (⟨#[32]⟩ : ByteArray) = some (Lib.indexByte l 32) := rfl
 unfold strings_Cut.f stringslite_Cut.f
 rw [e, h, Option.bind_some, if_neg (by decide)]; rfl
theorem Cut_some {l : List UInt8} {i : Nat} (h : Lib.indexByte l 32 = (i : Int)) (hi : i < l.length) (hl : l.length ≤ 1099511627776) : strings_Cut.f (ofL l) (⟨#[32]⟩ : ByteArray) = some (ofL (l.take i), ofL (l.drop (i + 1)), true) := by
 have e : stringslite_Index.f (ofL l) (⟨#[32]⟩ : ByteArray) = some (Lib.indexByte l 32) := rfl
 have e1 : ((⟨#[32]⟩ : ByteArray).size : Int) = 1 := rfl
 unfold strings_Cut.f stringslite_Cut.f
 rw [e, h, Option.bind_some, e1, w64_succ (show i < 9223372036854775807 by omega), ofL_size, if_pos (by omega), if_pos (by omega), if_pos (by omega), if_pos (by omega), if_pos (by omega)]
 simp only [Int.toNat_natCast]
 rw [ofL_ext, ofL_ext, List.drop_zero, Nat.sub_zero, List.take_of_length_le (show (l.drop (i + 1)).length ≤ l.length - (i + 1) by rw [List.length_drop]; omega)]
 rfl
theorem recI_w (a n : Nat) (h : a + n ≤ 4000) : wrap64 ((a : Int) + (n : Int)) = ((a + n : Nat) : Int) ∧ wrap64 ((a : Int) + wrap64 ((n : Int) + 1)) = ((a + n + 1 : Nat) : Int) := by
 refine ⟨w64_add a n (by omega), ?_⟩
 rw [w64_succ (show n < 9223372036854775807 by omega), w64_add a (n + 1) (by omega)]; rfl
theorem recI_l0 (s : ByteArray) (hs : s.size ≤ 4000) : ∀ (d a : Nat) (out : List ByteArray) (c : Int), s.size - a ≤ d → a ≤ s.size → out.length ≤ a → 0 ≤ c ∧ c ≤ 65002 →
 Ev (fun k => impl_RecoverJournal.l0 k s out c (a : Int)) (recL (splitL 10 (s.data.toList.drop a)).dropLast out c (a : Int)) := by
 intro d
 induction d with
 | zero =>
  intro a out c hd ha ho hc
  have c1 : (0 : Int) ≤ (a : Int) := by omega
  have c2 : (a : Int) ≤ (s.size : Int) := by omega
  have hn : s.data.toList.drop a = [] := List.drop_eq_nil_of_le (by rw [size_data]; omega)
  have ex : (s.extract a s.size).data.toList = s.data.toList.drop a := by
   rw [ext_data]
   exact List.take_of_length_le (by rw [List.length_drop, size_data]; omega)
  apply Ev.succ
  simp only [impl_RecoverJournal.l0, IndexByte_eq, Int.toNat_natCast, ex, hn, Option.bind_some]
  refine Ev.cond (fun _ => ?_) (fun h' => absurd c1 h')
  refine Ev.cond (fun _ => ?_) (fun h' => absurd c2 h')
  exact Ev.cond (fun _ => Ev.now _) (fun h' => absurd (show Lib.indexByte [] 10 < 0 by decide) h')
 | succ d ih =>
  intro a out c hd ha ho hc
  have c1 : (0 : Int) ≤ (a : Int) := by omega
  have c2 : (a : Int) ≤ (s.size : Int) := by omega
  have ex : (s.extract a s.size).data.toList = s.data.toList.drop a := by
   rw [ext_data]
   exact List.take_of_length_le (by rw [List.length_drop, size_data]; omega)
  have hlen : (s.data.toList.drop a).length = s.size - a := by rw [List.length_drop, size_data]
  apply Ev.succ
  simp only [impl_RecoverJournal.l0, IndexByte_eq, Int.toNat_natCast, ex, Option.bind_some]
  refine Ev.cond (fun _ => ?_) (fun h' => absurd c1 h')
  refine Ev.cond (fun _ => ?_) (fun h' => absurd c2 h')
  rcases idx_split 10 (s.data.toList.drop a) with ⟨e1, e2⟩ | ⟨n, e1, e2, e3⟩
  ·rw [e2, e1]
   exact Ev.cond (fun _ => Ev.now _) (fun h' => absurd (by decide) h')
  ·rw [e3, e1]
   rw [hlen] at e2
   have c3 : ¬ (n : Int) < 0 := by omega
   have han : a + n ≤ 4000 := by omega
   have c4 : (a : Int) ≤ ((a + n : Nat) : Int) := by omega
   have c5 : ((a + n : Nat) : Int) ≤ (s.size : Int) := by omega
   have c6 : out.length < 8796093022208 := by omega
   have x1 : s.extract a (a + n) = ofL ((s.data.toList.drop a).take n) := by
    rw [ext_ofL]
    congr 2
    omega
   have hdl : ((s.data.toList.drop a).take n :: splitL 10 ((s.data.toList.drop a).drop (n + 1))).dropLast = (s.data.toList.drop a).take n :: (splitL 10 (s.data.toList.drop (a + n + 1))).dropLast := by
    rw [List.drop_drop, show a + (n + 1) = a + n + 1 by omega]
    obtain ⟨y, r, e⟩ := splitL_ne 10 (s.data.toList.drop (a + n + 1))
    rw [e]; rfl
   rw [hdl]
   obtain ⟨L, hL⟩ : ∃ L, L = (s.data.toList.drop a).take n := ⟨_, rfl⟩
   have hLl : L.length = n := by rw [hL, List.length_take, hlen]; omega
   rw [← hL] at x1 ⊢
   simp only [(recI_w a n han).1, (recI_w a n han).2, Int.toNat_natCast, x1]
   refine Ev.cond (fun h' => absurd h' c3) (fun _ => ?_)
   refine Ev.cond (fun _ => ?_) (fun h' => absurd c4 h')
   refine Ev.cond (fun _ => ?_) (fun h' => absurd c5 h')
   rcases idx_cases 32 L with e | ⟨j, e, hj⟩
   ·rw [recL_none e]
    refine Ev.bind (Ev.const (Cut_none e)) ?_
    refine Ev.bind (CheckOf_ev (⟨#[]⟩ : ByteArray) (Nat.zero_le _) c hc) ?_
    exact Ev.cond (fun h' => absurd (show false = true from h') (by decide)) (fun _ => Ev.now _)
   ·rw [recL_some e]
    refine Ev.bind (Ev.const (Cut_some e hj (by omega))) ?_
    have hck := ckL_in (L.drop (j + 1)) c hc
    have hk := CheckOf_ev (ofL (L.drop (j + 1))) (by rw [ofL_size, List.length_drop]; omega) c hc
    rw [ofL_data] at hk
    refine Ev.bind hk ?_
    refine Ev.cond (fun _ => ?_) (fun h' => absurd rfl h')
    refine Ev.bind (Ev.const (Decimal_eq _ (by show (-9223372036854775808 : Int) ≤ ckL c (L.drop (j + 1)); omega) (by show ckL c (L.drop (j + 1)) ≤ (9223372036854775807 : Int); omega))) ?_
    by_cases hq : L.take j = Lib.itoa (ckL c (L.drop (j + 1)))
    ·rw [if_pos hq]
     have h3 := ih (a + n + 1) (out ++ [ofL (L.drop (j + 1))]) (ckL c (L.drop (j + 1))) (by omega) (by omega) (by rw [List.length_append, List.length_singleton]; omega) hck
     rw [show (a : Int) + ((L.length : Int) + 1) = ((a + n + 1 : Nat) : Int) by omega]
     refine Ev.cond (fun _ => ?_) (fun h' => absurd (itoa_inj_of.2 hq) h')
     exact Ev.cond (fun _ => h3) (fun h' => absurd c6 h')
    ·rw [if_neg hq]
     exact Ev.cond (fun h' => absurd (itoa_inj_of.1 h') hq) (fun _ => Ev.now _)
theorem RecoverI_ev (s : ByteArray) : Ev (fun k => impl_RecoverJournal.f k s) (recR s) := by
 unfold impl_RecoverJournal.f recR
 by_cases h4 : s.size ≤ 4000
 ·have c1 : ¬ (s.size : Int) > 4000 := by omega
  rw [if_pos h4]
  have h := recI_l0 s h4 s.size 0 [] 0 (by omega) (by omega) (Nat.le_refl _) (by omega)
  rw [List.drop_zero] at h
  exact Ev.cond (fun h' => absurd h' c1) (fun _ => h)
 ·have c1 : (s.size : Int) > 4000 := by omega
  rw [if_neg h4]
  exact Ev.cond (fun _ => Ev.now _) (fun h' => absurd c1 h')

/-! decSp -/
def decS2 (n : Int) : ByteArray := ofL (Lib.itoa n)
theorem l01Dec_l1 (ds : List Int) (hd : ds.length ≤ 1000) : ∀ (m : Nat) (out : List Int), m ≤ ds.length → out.length + m = ds.length → Ev (fun k => spec_l01Dec.l1 k ds out ((m : Int) - 1)) (strOfNums (out ++ (ds.take m).reverse)) := by
 intro m
 induction m with
 | zero =>
  intro out hm ho
  have c1 : ¬ (((0 : Nat) : Int) - 1) ≥ 0 := by omega
  rw [List.take_zero, List.reverse_nil, List.append_nil]
  apply Ev.succ
  simp only [spec_l01Dec.l1]
  exact Ev.cond (fun h' => absurd h' c1) (fun _ => Ev.now _)
 | succ m ih =>
  intro out hm ho
  have e : ((m + 1 : Nat) : Int) - 1 = (m : Int) := by omega
  rw [e]
  have c1 : (m : Int) ≥ 0 := by omega
  have c2 : (m : Int) < (ds.length : Int) := by omega
  have c3 : out.length < 140737488355328 := by omega
  have h3 := ih (out ++ [rd ds (m : Int)]) (by omega) (by rw [List.length_append, List.length_singleton]; omega)
  rw [take_rd (show m < ds.length by omega), List.reverse_append]
  rw [List.append_assoc] at h3
  apply Ev.succ
  simp only [spec_l01Dec.l1, w64 (show -9223372036854775808 ≤ (m : Int) - 1 by omega) (show (m : Int) - 1 ≤ 9223372036854775807 by omega)]
  refine Ev.cond (fun _ => ?_) (fun h' => absurd c1 h')
  refine Ev.cond (fun _ => ?_) (fun h' => absurd c1 h')
  refine Ev.cond (fun _ => ?_) (fun h' => absurd c2 h')
  exact Ev.cond (fun _ => h3) (fun h' => absurd c3 h')
theorem l01Dec_j1 (ds : List Int) (hd : ds.length ≤ 1000) : Ev (fun k => spec_l01Dec.j1 k ds) (strOfNums ds.reverse) := by
 have h := l01Dec_l1 ds hd ds.length [] (Nat.le_refl _) (by simp)
 rw [List.take_length, List.nil_append] at h
 apply Ev.succ
 simp only [spec_l01Dec.j1, w64 (show -9223372036854775808 ≤ (ds.length : Int) - 1 by omega) (show (ds.length : Int) - 1 ≤ 9223372036854775807 by omega)]
 exact h
theorem l01Dec_l0 (n : Int) (sg : Int) (hsg : sg = 1 ∨ sg = -1) : ∀ (u : Nat) (out : List Int), out.length + (revD u).length ≤ 500 → u ≤ 9223372036854775808 →
 Ev (fun k => spec_l01Dec.l0 k n out (sg * (u : Int))) (strOfNums ((out ++ revD u) ++ (if n < 0 then [45] else [])).reverse) := by
 intro u
 induction u using Nat.strongRecOn with
 | _ u ih =>
  intro out ho hu
  by_cases h0 : u = 0
  ·subst h0
   have c1 : sg * ((0 : Nat) : Int) = 0 := by simp
   rw [revD_zero] at ho ⊢
   rw [List.append_nil]
   simp only [List.length_nil, Nat.add_zero] at ho
   have c2 : out.length < 140737488355328 := by omega
   apply Ev.succ
   simp only [spec_l01Dec.l0, c1]
   refine Ev.cond (fun _ => ?_) (fun h' => absurd (by trivial) h')
   by_cases hn : n < 0
   ·rw [if_pos hn]
    refine Ev.cond (fun _ => ?_) (fun h' => absurd hn h')
    exact Ev.cond (fun _ => l01Dec_j1 _ (by rw [List.length_append, List.length_singleton]; omega)) (fun h' => absurd c2 h')
   ·rw [if_neg hn, List.append_nil]
    exact Ev.cond (fun h' => absurd h' hn) (fun _ => l01Dec_j1 _ (by omega))
  ·rw [revD_pos h0, List.length_cons] at ho
   have c2 : out.length < 140737488355328 := by omega
   have h3 := ih (u / 10) (by omega) (out ++ [48 + ((u % 10 : Nat) : Int)]) (by rw [List.length_append, List.length_singleton]; omega) (by omega)
   rw [show (out ++ [48 + ((u % 10 : Nat) : Int)]) ++ revD (u / 10) = out ++ revD u by rw [revD_pos h0, List.append_assoc, List.singleton_append]] at h3
   have et : Int.tmod (sg * (u : Int)) 10 = sg * ((u % 10 : Nat) : Int) := by
    rcases hsg with rfl | rfl
    ·rw [Int.one_mul, Int.one_mul]; rfl
    ·rw [Int.neg_mul, Int.one_mul, Int.neg_tmod, Int.neg_mul, Int.one_mul]; rfl
   have ed : Int.tdiv (sg * (u : Int)) 10 = sg * ((u / 10 : Nat) : Int) := by
    rcases hsg with rfl | rfl
    ·rw [Int.one_mul, Int.one_mul]; rfl
    ·rw [Int.neg_mul, Int.one_mul, Int.neg_tdiv, Int.neg_mul, Int.one_mul]; rfl
   have hne : ¬ sg * (u : Int) = 0 := by rcases hsg with rfl | rfl <;> omega
   have ew : wrap64 (sg * ((u / 10 : Nat) : Int)) = sg * ((u / 10 : Nat) : Int) := by rcases hsg with rfl | rfl <;> exact w64 (by omega) (by omega)
   have hm : u % 10 < 10 := Nat.mod_lt _ (by decide)
   apply Ev.succ
   simp only [spec_l01Dec.l0, et, ed, ew]
   refine Ev.cond (fun h' => absurd h' hne) (fun _ => ?_)
   by_cases hneg : sg * ((u % 10 : Nat) : Int) < 0
   ·refine Ev.cond (fun _ => ?_) (fun h' => absurd hneg h')
    have es : sg = -1 := by rcases hsg with rfl | rfl; exact absurd hneg (by omega); rfl
    subst es
    rw [w64 (show -9223372036854775808 ≤ -(-1 * ((u % 10 : Nat) : Int)) by omega) (by omega), w64 (show -9223372036854775808 ≤ 48 + -(-1 * ((u % 10 : Nat) : Int)) by omega) (by omega), show (48 + -(-1 * ((u % 10 : Nat) : Int))) % 256 = 48 + ((u % 10 : Nat) : Int) by omega]
    exact Ev.cond (fun _ => h3) (fun h' => absurd c2 h')
   ·refine Ev.cond (fun h' => absurd h' hneg) (fun _ => ?_)
    have es : sg * ((u % 10 : Nat) : Int) = ((u % 10 : Nat) : Int) := by rcases hsg with rfl | rfl <;> omega
    rw [es, w64 (show -9223372036854775808 ≤ 48 + ((u % 10 : Nat) : Int) by omega) (by omega), show (48 + ((u % 10 : Nat) : Int)) % 256 = 48 + ((u % 10 : Nat) : Int) by omega]
    exact Ev.cond (fun _ => h3) (fun h' => absurd c2 h')
theorem l01Dec_ev (n : Int) (h1 : -9223372036854775808 ≤ n) (h2 : n ≤ 9223372036854775807) : Ev (fun k => spec_l01Dec.f k n) (ofL (Lib.itoa n)) := by
 unfold spec_l01Dec.f
 by_cases h0 : n = 0
 ·subst h0
  refine Ev.cond (fun _ => ?_) (fun h' => absurd rfl h')
  have e : ofL (Lib.itoa 0) = (⟨#[48]⟩ : ByteArray) := by
   unfold Lib.itoa
   rw [if_neg (by decide), Lib.decDigits]
   rfl
  rw [e]
  exact Ev.now _
 ·refine Ev.cond (fun h' => absurd h' h0) (fun _ => ?_)
  obtain ⟨sg, u, hsg, hu, hn⟩ : ∃ (sg : Int) (u : Nat), (sg = 1 ∨ sg = -1) ∧ n = sg * (u : Int) ∧ (sg = -1 ↔ n < 0) := by
   by_cases hneg : n < 0
   ·exact ⟨-1, n.natAbs, .inr rfl, by omega, by omega⟩
   ·exact ⟨1, n.toNat, .inl rfl, by omega, by omega⟩
  have hub : u ≤ 9223372036854775808 := by rcases hsg with rfl | rfl <;> omega
  have hu0 : u ≠ 0 := by rintro rfl; rw [hu] at h0; simp at h0
  have hl := revD_len20 20 u (Nat.lt_of_le_of_lt hub (by decide))
  have h3 := l01Dec_l0 n sg hsg u [] (by rw [List.length_nil]; omega) hub
  rw [← hu, List.nil_append] at h3
  have e : strOfNums ((revD u) ++ (if n < 0 then [45] else [])).reverse = ofL (Lib.itoa n) := by
   apply ByteArray.ext
   apply Array.ext'
   show List.map (fun n : Int => UInt8.ofNat n.toNat) _ = Lib.itoa n
   unfold Lib.itoa
   by_cases hneg : n < 0
   ·rw [if_pos hneg, if_pos hneg, List.reverse_append, List.map_append, show n.natAbs = u by rcases hsg with rfl | rfl <;> omega, revD_dec u hu0]; rfl
   ·rw [if_neg hneg, if_neg hneg, List.append_nil, show n.toNat = u by rcases hsg with rfl | rfl <;> omega, revD_dec u hu0]
  rw [e] at h3
  exact h3

/-! r8 -/
theorem wf_u8 {x : Int} (h : (Lit.int .u8 x).wf = true) : 0 ≤ x ∧ x ≤ 255 := by
 have h1 : decide (IntKind.min .u8 ≤ x) = true ∧ decide (x ≤ IntKind.max .u8) = true := by
  simpa [Lit.wf] using h
 obtain ⟨ha, hb⟩ := h1
 have ha := of_decide_eq_true ha
 have hb := of_decide_eq_true hb
 have e1 : IntKind.min .u8 = 0 := by decide
 have e2 : IntKind.max .u8 = 255 := by decide
 rw [e1] at ha
 rw [e2] at hb
 exact ⟨ha, hb⟩

/-! src -/
theorem u64_mod (z : Int) : IntKind.u64.wrap z = z % 18446744073709551616 := by simp [IntKind.wrap, IntKind.bits, IntKind.signed]
theorem u64_and255 (z : Int) : 0 ≤ wrap64 (Go.bits .and .u64 ((IntKind.u64.wrap z) / 1099511627776) 255) ∧ wrap64 (Go.bits .and .u64 ((IntKind.u64.wrap z) / 1099511627776) 255) ≤ 255 := by
 obtain ⟨Y, hY⟩ := Int.eq_ofNat_of_zero_le (show 0 ≤ (IntKind.u64.wrap z) / 1099511627776 by rw [u64_mod]; omega)
 have hlt : Y < 18446744073709551616 := by rw [u64_mod] at hY; omega
 rw [hY]
 have h2 : Go.bits .and .u64 (Y : Int) 255 = ((Y &&& 255 : Nat) : Int) := bits_and_u64_nat Y 255 hlt (by decide)
 rw [h2]
 have h3 : Y &&& 255 ≤ 255 := Nat.and_le_right
 rw [w64 (by omega) (by omega)]
 omega
theorem src_next (l : List Int) (h : ∀ x ∈ l, (Lit.int .u8 x).wf = true) (p : Nat) (hs : Int) (hp : p < 1099511627776) : ∃ v hs', spec_l00Src_next.f l (p : Int) hs = some (v, ((p + 1 : Nat) : Int), hs') ∧ 0 ≤ v ∧ v ≤ 255 := by
 have hw : wrap64 ((p : Int) + 1) = ((p + 1 : Nat) : Int) := w64_succ (by omega)
 unfold spec_l00Src_next.f
 by_cases h1 : p < l.length
 ·have hx := wf_u8 (h _ (rd_mem h1))
  rw [if_pos (show (p : Int) < (l.length : Int) by omega), if_pos (show (0 : Int) ≤ (p : Int) by omega), hw, if_pos (show ((p + 1 : Nat) : Int) ≤ (l.length : Int) by omega)]
  refine ⟨_, _, rfl, ?_⟩
  rw [w64 (by omega) (by omega)]
  exact hx
 ·rw [if_neg (show ¬ (p : Int) < (l.length : Int) by omega), hw, if_neg (show ¬ ((p + 1 : Nat) : Int) ≤ (l.length : Int) by omega)]
  exact ⟨_, _, rfl, u64_and255 _⟩
theorem src_pick (l : List Int) (h : ∀ x ∈ l, (Lit.int .u8 x).wf = true) (p : Nat) (hs a : Int) (hp : p < 1099511627776) (ha : 2 ≤ a) (ha2 : a ≤ 200) : ∃ v hs', spec_l00Src_pick.f l (p : Int) hs a = some (v, ((p + 1 : Nat) : Int), hs') ∧ 0 ≤ v ∧ v < a := by
 obtain ⟨v, hs', h1, h2, h3⟩ := src_next l h p hs hp
 unfold spec_l00Src_pick.f
 rw [if_neg (by omega), h1, Option.bind_some, if_neg (by omega), if_neg (by omega)]
 exact ⟨_, _, rfl, Int.tmod_nonneg _ h2, Int.tmod_lt_of_pos _ (by omega)⟩

/-! rdset -/
theorem rd_set_same {xs : List Int} {s v : Int} (h0 : 0 ≤ s) (h : s < (xs.length : Int)) : rd (xs.set s.toNat v) s = v := by
 unfold rd
 rw [List.getD_eq_getElem?_getD, List.getElem?_set_self (by omega)]; rfl
theorem rd_set_ne {xs : List Int} {s t v : Int} (h0 : 0 ≤ s) (h1 : 0 ≤ t) (h : s ≠ t) : rd (xs.set s.toNat v) t = rd xs t := by
 unfold rd
 rw [List.getD_eq_getElem?_getD, List.getD_eq_getElem?_getD, List.getElem?_set_ne (by omega)]

/-! sumL -/
def sumL : List Int → Int
 | [] => 0
 | x :: r => x + sumL r
theorem rd_zero (x : Int) (r : List Int) : rd (x :: r) ((0 : Nat) : Int) = x := rfl
theorem rd_succ (x : Int) (r : List Int) (i : Nat) : rd (x :: r) ((i + 1 : Nat) : Int) = rd r (i : Int) := by
 rw [rd_nat, rd_nat]; rfl
theorem sumL_set (l : List Int) : ∀ (i : Nat) (v : Int), i < l.length → sumL (l.set i v) = sumL l - rd l (i : Int) + v := by
 induction l with
 | nil => intro i v h; exact absurd h (by simp)
 | cons x l ih =>
  intro i v h
  cases i with
  | zero => rw [rd_zero]; simp only [List.set_cons_zero, sumL]; omega
  | succ i =>
   have h2 := ih i v (by simpa using h)
   rw [rd_succ]
   simp only [List.set_cons_succ, sumL]; omega
theorem sumL_nonneg (l : List Int) : (∀ x ∈ l, 0 ≤ x) → 0 ≤ sumL l := by
 induction l with
 | nil => intro _; exact Int.le_refl _
 | cons x l ih =>
  intro h
  have h1 := h x List.mem_cons_self
  have h2 := ih (fun y hy => h y (List.mem_cons_of_mem _ hy))
  simp only [sumL]; omega
theorem sumL_ge (l : List Int) : (∀ x ∈ l, 0 ≤ x) → ∀ x ∈ l, x ≤ sumL l := by
 induction l with
 | nil => intro _ x hx; exact absurd hx (by simp)
 | cons y l ih =>
  intro h x hx
  have h1 := h y List.mem_cons_self
  have h3 := fun z hz => h z (List.mem_cons_of_mem _ hz)
  have h2 := sumL_nonneg l h3
  simp only [sumL]
  rcases List.mem_cons.1 hx with rfl | hx
  ·omega
  ·have := ih h3 x hx; omega
theorem sumL_le (l : List Int) (b : Int) : (∀ x ∈ l, x ≤ b) → sumL l ≤ b * (l.length : Int) := by
 induction l with
 | nil => intro _; simp [sumL]
 | cons y l ih =>
  intro h
  have h1 := h y List.mem_cons_self
  have h2 := ih (fun z hz => h z (List.mem_cons_of_mem _ hz))
  have e : b * ((y :: l).length : Int) = b * (l.length : Int) + b := by
   rw [List.length_cons, show ((l.length + 1 : Nat) : Int) = (l.length : Int) + 1 by omega, Int.mul_add, Int.mul_one]
  rw [e]
  simp only [sumL]; omega
theorem rd_setn (l : List Int) (i j : Nat) (v : Int) (hi : i < l.length) : rd (l.set i v) (j : Int) = if i = j then v else rd l (j : Int) := by
 by_cases h : i = j
 ·subst h
  rw [if_pos rfl]
  have := rd_set_same (xs := l) (s := (i : Int)) (v := v) (by omega) (by omega)
  rwa [Int.toNat_natCast] at this
 ·rw [if_neg h]
  have := rd_set_ne (xs := l) (s := (i : Int)) (t := (j : Int)) (v := v) (by omega) (by omega) (by omega)
  rwa [Int.toNat_natCast] at this
theorem mem_rd {l : List Int} {x : Int} (h : x ∈ l) : ∃ j : Nat, j < l.length ∧ rd l (j : Int) = x := by
 obtain ⟨j, hj, e⟩ := List.getElem_of_mem h
 exact ⟨j, hj, by rw [rd_get hj, e]⟩
theorem all_rd {l : List Int} {P : Int → Prop} (h : ∀ j : Nat, j < l.length → P (rd l (j : Int))) : ∀ x ∈ l, P x := by
 intro x hx
 obtain ⟨j, hj, e⟩ := mem_rd hx
 rw [← e]; exact h j hj

/-! b10 -/
theorem b10At_eq (l : List Int) (h : ∀ x ∈ l, (Lit.int .u8 x).wf = true) (a n : Int) (ha : 0 ≤ a ∧ a ≤ 1000) (hn : 1 ≤ n) : ∃ t, laws_b10At.f l a n = some t ∧ 0 ≤ t ∧ t < n := by
 unfold laws_b10At.f
 by_cases h1 : n ≤ 1
 ·exact ⟨0, by rw [if_pos h1], by omega, by omega⟩
 have hn0 : ¬ n = 0 := by omega
 by_cases h2 : a < (l.length : Int)
 ·obtain ⟨m, rfl⟩ := Int.eq_ofNat_of_zero_le ha.1
  have hm : m < l.length := by omega
  have hx := wf_u8 (h _ (rd_mem hm))
  rw [if_neg h1, if_pos h2, if_pos ha.1, if_neg hn0, w64 (by omega) (by omega)]
  exact ⟨_, rfl, Int.tmod_nonneg _ hx.1, Int.tmod_lt_of_pos _ (by omega)⟩
 ·have e1 : wrap64 (a * 37) = a * 37 := w64 (by omega) (by omega)
  have e2 : wrap64 (a * 37 + 11) = a * 37 + 11 := w64 (by omega) (by omega)
  rw [if_neg h1, if_neg h2, if_neg hn0, e1, e2]
  exact ⟨_, rfl, Int.tmod_nonneg _ (by omega), Int.tmod_lt_of_pos _ (by omega)⟩
theorem b10Long_eq (l m : List Int) : ∃ b, laws_b10Long.f l m = some b := by
 unfold laws_b10Long.f
 split
 ·exact ⟨_, rfl⟩
 ·exact ⟨_, rfl⟩

/-! idxS -/
/-- The place of a text in a list from a number on, or -1. -/
def idxS : List ByteArray → Nat → ByteArray → Int
 | [], _, _ => -1
 | y :: r, n, x => if y = x then (n : Int) else idxS r (n + 1) x
theorem idxS_pos : ∀ (r : List ByteArray) (n : Nat) (x : ByteArray), 0 ≤ idxS r n x ↔ x ∈ r
 | [], n, x => by simp [idxS]
 | y :: r, n, x => by
  unfold idxS
  by_cases h : y = x
  ·rw [if_pos h]
   exact ⟨fun _ => by rw [h]; exact List.mem_cons_self, fun _ => by omega⟩
  ·rw [if_neg h, idxS_pos r (n + 1) x, List.mem_cons]
   exact ⟨fun h2 => .inr h2, fun h2 => by rcases h2 with h2 | h2; exact absurd h2.symm h; exact h2⟩
theorem l03Index_l0 (xs : List ByteArray) (x : ByteArray) (hn : xs.length ≤ 1099511627776) : ∀ d n, n + d = xs.length → Ev (fun k => spec_l03Index.l0 k xs x (n : Int)) (idxS (xs.drop n) n x) := by
 intro d
 induction d with
 | zero =>
  intro n h
  have c1 : ¬ (n : Int) < (xs.length : Int) := by omega
  rw [List.drop_eq_nil_of_le (by omega)]
  apply Ev.succ
  simp only [spec_l03Index.l0]
  exact Ev.cond (fun h' => absurd h' c1) (fun _ => Ev.now _)
 | succ d ih =>
  intro n h
  have hl : n < xs.length := by omega
  have c1 : (n : Int) < (xs.length : Int) := by omega
  have c2 : (0 : Int) ≤ (n : Int) := by omega
  have h3 := ih (n + 1) (by omega)
  rw [drop_sn hl]
  unfold idxS
  apply Ev.succ
  simp only [spec_l03Index.l0, sr_nat, w64_succ (show n < 9223372036854775807 by omega)]
  refine Ev.cond (fun _ => ?_) (fun h' => absurd c1 h')
  refine Ev.cond (fun _ => ?_) (fun h' => absurd c2 h')
  by_cases hc : sn xs n = x
  ·rw [if_pos hc]
   exact Ev.cond (fun _ => Ev.now _) (fun h' => absurd (by rw [hc]) h')
  ·rw [if_neg hc]
   exact Ev.cond (fun h' => absurd (bytes_ext h') hc) (fun _ => h3)
theorem l03Index_ev (xs : List ByteArray) (x : ByteArray) (hn : xs.length ≤ 1099511627776) : Ev (fun k => spec_l03Index.f k xs x) (idxS xs 0 x) := l03Index_l0 xs x hn xs.length 0 (by omega)

/-! nameB -/
/-- A small letter. -/
def isLowB (b : UInt8) : Bool := decide (97 ≤ b.toNat ∧ b.toNat ≤ 122)
/-- A name. -/
def nameB (s : ByteArray) : Bool := s.data.toList.all isLowB && decide (1 ≤ s.size ∧ s.size ≤ 10)
theorem nameEnd (s : ByteArray) : (if (s.size : Int) ≥ 1 then (some (decide ((s.size : Int) ≤ 10))) else (some false)) = some (decide (1 ≤ s.size ∧ s.size ≤ 10)) := by
 by_cases h : 1 ≤ s.size
 ·rw [if_pos (by omega)]
  congr 1
  exact decide_eq_decide.2 ⟨fun h2 => ⟨h, by omega⟩, fun h2 => by omega⟩
 ·rw [if_neg (by omega), decide_eq_false (fun h2 => h h2.1)]
theorem isLow_not {b : UInt8} {z : Int} (e : z = (b.toNat : Int)) (h : z < 97 ∨ z > 122) : isLowB b = false := by
 unfold isLowB
 exact decide_eq_false (by omega)
theorem isLow_yes {b : UInt8} {z : Int} (e : z = (b.toNat : Int)) (h : ¬ z < 97) (h2 : ¬ z > 122) : isLowB b = true := by
 unfold isLowB
 exact decide_eq_true (by omega)

/-! IsNameS -/
theorem IsNameS_l0 (s : ByteArray) (hn : s.size ≤ 1099511627776) : ∀ d n, n + d = s.size → Ev (fun k => spec_IsName.l0 k s (n : Int)) ((s.data.toList.drop n).all isLowB && decide (1 ≤ s.size ∧ s.size ≤ 10)) := by
 intro d
 induction d with
 | zero =>
  intro n h
  have c1 : ¬ (n : Int) < (s.size : Int) := by omega
  rw [List.drop_eq_nil_of_le (by rw [size_data]; omega)]
  apply Ev.succ
  simp only [spec_IsName.l0, nameEnd]
  exact Ev.cond (fun h' => absurd h' c1) (fun _ => Ev.const (by simp))
 | succ d ih =>
  intro n h
  have hl : n < s.size := by omega
  have c1 : (n : Int) < (s.size : Int) := by omega
  have c2 : (0 : Int) ≤ (n : Int) := by omega
  have h3 := ih (n + 1) (by omega)
  have hb := bt_nat s n hl
  rw [drop_data hl, List.all_cons]
  apply Ev.succ
  simp only [spec_IsName.l0, w64_succ (show n < 9223372036854775807 by omega)]
  refine Ev.cond (fun _ => ?_) (fun h' => absurd c1 h')
  refine Ev.cond (fun _ => ?_) (fun h' => absurd c2 h')
  refine Ev.cond (fun h1 => ?_) (fun h1 => ?_)
  ·rw [isLow_not hb (.inl h1)]; exact Ev.now _
  refine Ev.cond (fun h2 => ?_) (fun h2 => ?_)
  ·rw [isLow_not hb (.inr h2)]; exact Ev.now _
  rw [isLow_yes hb h1 h2, Bool.true_and]
  exact h3
theorem IsNameS_ev (s : ByteArray) (hn : s.size ≤ 1099511627776) : Ev (fun k => spec_IsName.f k s) (nameB s) := IsNameS_l0 s hn s.size 0 (by omega)

/-! l01Bits -/
theorem l01Bits_l0 (s : ByteArray) (hn : s.size ≤ 1099511627776) : ∀ d n, n + d = s.size → Ev (fun k => spec_l01Bits.l0 k s (n : Int)) ((s.data.toList.drop n).all isBitB && decide (s.size ≤ 400)) := by
 intro d
 induction d with
 | zero =>
  intro n h
  apply Ev.succ
  have h1 : ¬ ((n : Int) < (s.size : Int)) := by omega
  have h2 : s.data.toList.drop n = [] := List.drop_eq_nil_of_le (by rw [size_data]; omega)
  have h3 : ((s.size : Int) ≤ 400) = (s.size ≤ 400) := propext ⟨fun h => by omega, fun h => by omega⟩
  simp only [spec_l01Bits.l0, h1, if_false, h2, h3]
  exact Ev.now _
 | succ d ih =>
  intro n h
  apply Ev.succ
  have hl : n < s.size := by omega
  have h1 : (n : Int) < (s.size : Int) := by omega
  have h2 : (0 : Int) ≤ (n : Int) := by omega
  have h3 := ih (n + 1) (by omega)
  rw [drop_data hl, List.all_cons]
  have hb := bt_nat s n hl
  have hi := isBit_iff (s[n])
  rw [← hb] at hi
  simp only [spec_l01Bits.l0, h1, h2, if_true, w64_succ (show n < 9223372036854775807 by omega)]
  by_cases c1 : bt s (n : Int) = 48
  ·rw [hi.2 (.inl c1), Bool.true_and]
   simp only [c1, if_true]; exact h3
  ·by_cases c2 : bt s (n : Int) = 49
   ·rw [hi.2 (.inr c2), Bool.true_and]
    simp only [c2, if_true, Int.reduceEq, if_false]; exact h3
   ·have hf : isBitB (s[n]) = false := by
     rw [Bool.eq_false_iff]; intro hc
     rcases hi.1 hc with hc | hc
     ·exact c1 hc
     ·exact c2 hc
    simp only [hf, Bool.false_and, c1, c2, if_false]
    exact Ev.now _
theorem l01Bits_ev (s : ByteArray) (hn : s.size ≤ 1099511627776) : Ev (fun k => spec_l01Bits.f k s) (bitsB s) := by
 have h := l01Bits_l0 s hn s.size 0 (by omega)
 exact h

/-! strs -/
theorem str_size (l : List Int) : (strOfNums l).size = l.length := by
 show (strOfNums l).data.size = _
 simp [strOfNums]
theorem bt_str {xs : List Int} {k : Nat} (hk : k < xs.length) (h : 0 ≤ xs[k] ∧ xs[k] ≤ 255) : bt (strOfNums xs) (k : Int) = xs[k] := by
 have hk' : k < (strOfNums xs).size := by rw [str_size]; exact hk
 rw [bt_nat _ _ hk']
 have e : (strOfNums xs)[k]'hk' = UInt8.ofNat (xs[k]).toNat := by
  show (strOfNums xs).data[k]'_ = _
  simp [strOfNums]
 rw [e, UInt8.toNat_ofNat']
 omega
theorem all_bits_iff (s : ByteArray) : s.data.toList.all isBitB = true ↔ ∀ k : Nat, k < s.size → (bt s (k : Int) = 48 ∨ bt s (k : Int) = 49) := by
 rw [List.all_eq_true]
 constructor
 ·intro h k hk
  rw [bt_nat s k hk]
  refine (isBit_iff _).1 (h _ ?_)
  rw [← data_get hk]; exact List.getElem_mem _
 ·intro h b hb
  obtain ⟨k, hk, rfl⟩ := List.mem_iff_getElem.1 hb
  have hk' : k < s.size := by rw [← size_data]; exact hk
  rw [isBit_iff, data_get hk', ← bt_nat s k hk']
  exact h k hk'
theorem str_ext {s t : ByteArray} (h : s.size = t.size) (h2 : ∀ k : Nat, k < s.size → bt s (k : Int) = bt t (k : Int)) : s = t := by
 apply ByteArray.ext
 apply Array.ext
 ·exact h
 ·intro k h3 h4
  have e := h2 k h3
  rw [bt_nat s k h3, bt_nat t k h4] at e
  exact UInt8.toNat_inj.1 (by exact_mod_cast e)

/-! R8Bits -/
theorem src_one (l : List Int) (h : ∀ x ∈ l, (Lit.int .u8 x).wf = true) (p : Nat) (hs : Int) (hp : p < 1099511627776) : ∃ b hs', spec_l00Src_one.f l (p : Int) hs 2 = some (b, ((p + 1 : Nat) : Int), hs') := by
 obtain ⟨v, hs', h1, h2, h3⟩ := src_pick l h p hs 2 hp (by omega) (by omega)
 unfold spec_l00Src_one.f
 rw [h1, Option.bind_some]
 exact ⟨_, _, rfl⟩
theorem str_bits {ys : List Int} (h : ∀ x ∈ ys, x = 48 ∨ x = 49) : (strOfNums ys).data.toList.all isBitB = true := by
 rw [List.all_eq_true]
 intro b hb
 have e : (strOfNums ys).data.toList = ys.map fun n => UInt8.ofNat n.toNat := by simp [strOfNums]
 rw [e, List.mem_map] at hb
 obtain ⟨x, hx, rfl⟩ := hb
 rcases h x hx with rfl | rfl <;> decide

/-- A drawn value: where the source is then, and what holds of it. -/
def Dr {α : Type} (g : Nat → Option (α × Int × Int)) (p n : Nat) (Q : α → Prop) : Prop := ∃ (v : α) (q : Nat) (hs : Int), Ev g (v, (q : Int), hs) ∧ q ≤ p + n ∧ Q v
theorem Dr.ret {α : Type} {v : α} {p : Nat} {hs : Int} {Q : α → Prop} (n : Nat) (h : Q v) : Dr (fun _ => some (v, (p : Int), hs)) p n Q := ⟨v, p, hs, Ev.now _, by omega, h⟩
theorem Dr.le {α : Type} {g : Nat → Option (α × Int × Int)} {p n m : Nat} {Q R : α → Prop} (h : Dr g p n Q) (hn : n ≤ m) (hq : ∀ v, Q v → R v) : Dr g p m R := by
 obtain ⟨v, q, hs, h1, h2, h3⟩ := h
 exact ⟨v, q, hs, h1, by omega, hq v h3⟩
theorem Dr.bind {α β : Type} {g : Nat → Option (α × Int × Int)} {f : Nat → α × Int × Int → Option (β × Int × Int)} {p n m : Nat} {Q : α → Prop} {R : β → Prop} (h : Dr g p n Q) (hf : ∀ (v : α) (q : Nat) (hs : Int), q ≤ p + n → Q v → Dr (fun k => f k (v, (q : Int), hs)) q m R) : Dr (fun k => (g k).bind (f k)) p (n + m) R := by
 obtain ⟨v, q, hs, h1, h2, h3⟩ := h
 obtain ⟨u, r, hs2, h4, h5, h6⟩ := hf v q hs h2 h3
 exact ⟨u, r, hs2, Ev.bind h1 h4, by omega, h6⟩
theorem Dr.from {α β : Type} {g : Nat → Option β} {f : Nat → β → Option (α × Int × Int)} {p n : Nat} {t : β} {Q : α → Prop} (h : Ev g t) (hf : Dr (fun k => f k t) p n Q) : Dr (fun k => (g k).bind (f k)) p n Q := by
 obtain ⟨v, q, hs, h1, h2, h3⟩ := hf
 exact ⟨v, q, hs, Ev.bind h h1, h2, h3⟩
theorem Dr.cond {α : Type} {c : Prop} [Decidable c] {g f : Nat → Option (α × Int × Int)} {p n : Nat} {Q : α → Prop} (h1 : c → Dr g p n Q) (h2 : ¬ c → Dr f p n Q) : Dr (fun k => if c then g k else f k) p n Q := by
 by_cases h : c
 ·simp only [h, if_true]; exact h1 h
 ·simp only [h, if_false]; exact h2 h
theorem Dr.succ {α : Type} {g : Nat → Option (α × Int × Int)} {p n : Nat} {Q : α → Prop} (h : Dr (fun k => g (k + 1)) p n Q) : Dr g p n Q := by
 obtain ⟨v, q, hs, h1, h2, h3⟩ := h
 exact ⟨v, q, hs, Ev.succ h1, h2, h3⟩
section
variable (l : List Int) (hl : ∀ x ∈ l, (Lit.int .u8 x).wf = true)
include hl
theorem dr_pick (p : Nat) (hs a : Int) (hp : p < 1000000) (ha : 2 ≤ a) (ha2 : a ≤ 200) : Dr (fun _ => spec_l00Src_pick.f l (p : Int) hs a) p 1 (fun v => 0 ≤ v ∧ v < a) := by
 obtain ⟨v, hs2, h1, h2⟩ := src_pick l hl p hs a (by omega) ha ha2
 exact ⟨v, p + 1, hs2, Ev.const h1, Nat.le_refl _, h2⟩
theorem dr_pick0 (p : Nat) (hs a : Int) (hp : p < 1000000) (ha : 1 ≤ a) (ha2 : a ≤ 200) : Dr (fun _ => spec_l00Src_pick.f l (p : Int) hs a) p 1 (fun v => 0 ≤ v ∧ v < a) := by
 by_cases h : 2 ≤ a
 ·exact dr_pick l hl p hs a hp h ha2
 ·refine ⟨0, p, hs, Ev.const ?_, by omega, by omega⟩
  unfold spec_l00Src_pick.f
  rw [if_pos (by omega)]
theorem dr_text (p : Nat) (hs : Int) (xs : List ByteArray) (hp : p < 1000000) (h1 : 1 ≤ xs.length) (h2 : xs.length ≤ 200) : Dr (fun _ => spec_l00Src_text.f l (p : Int) hs xs) p 1 (fun v => v ∈ xs) := by
 unfold spec_l00Src_text.f
 refine (Dr.bind (dr_pick0 l hl p hs (xs.length : Int) hp (by omega) (by omega)) (m := 0) (R := fun v => v ∈ xs) (fun v q hs2 hq hv => ?_)).le (Nat.le_refl _) (fun _ h => h)
 obtain ⟨n, rfl⟩ := Int.eq_ofNat_of_zero_le hv.1
 have hn : n < xs.length := by omega
 refine Dr.cond (fun _ => ?_) (fun h' => absurd hv.1 h')
 refine Dr.cond (fun _ => ?_) (fun h' => absurd hv.2 h')
 rw [sr_nat]
 exact Dr.ret 0 (sn_mem hn)
theorem dr_one (p : Nat) (hs a : Int) (hp : p < 1000000) (ha : 2 ≤ a) (ha2 : a ≤ 200) : Dr (fun _ => spec_l00Src_one.f l (p : Int) hs a) p 1 (fun _ => True) := by
 unfold spec_l00Src_one.f
 refine (Dr.bind (dr_pick l hl p hs a hp ha ha2) (m := 0) (R := fun _ => True) (fun v q hs2 hq hv => ?_)).le (Nat.le_refl _) (fun _ h => h)
 exact Dr.ret 0 trivial
theorem dr_among (p : Nat) (hs : Int) (xs : List Int) (hp : p < 1000000) (h1 : 1 ≤ xs.length) (h2 : xs.length ≤ 200) : Dr (fun _ => spec_l00Src_among.f l (p : Int) hs xs) p 1 (fun v => v ∈ xs) := by
 unfold spec_l00Src_among.f
 refine (Dr.bind (dr_pick0 l hl p hs (xs.length : Int) hp (by omega) (by omega)) (m := 0) (R := fun v => v ∈ xs) (fun v q hs2 hq hv => ?_)).le (Nat.le_refl _) (fun _ h => h)
 obtain ⟨n, rfl⟩ := Int.eq_ofNat_of_zero_le hv.1
 have hn : n < xs.length := by omega
 refine Dr.cond (fun _ => ?_) (fun h' => absurd hv.1 h')
 refine Dr.cond (fun _ => ?_) (fun h' => absurd hv.2 h')
 exact Dr.ret 0 (rd_mem hn)
end
theorem Dr.bindN {α β : Type} {g : Nat → Option (α × Int × Int)} {f : Nat → α × Int × Int → Option (β × Int × Int)} {p n m N : Nat} {Q : α → Prop} {R : β → Prop} (h : Dr g p n Q) (hf : ∀ (v : α) (q : Nat) (hs : Int), q ≤ p + n → Q v → Dr (fun k => f k (v, (q : Int), hs)) q m R) (hN : n + m ≤ N) : Dr (fun k => (g k).bind (f k)) p N R :=
 (Dr.bind h hf).le hN (fun _ h => h)
theorem Dr.yes {α : Type} {c : Prop} [Decidable c] {g f : Nat → Option (α × Int × Int)} {p n : Nat} {Q : α → Prop} (hc : c) (h : Dr g p n Q) : Dr (fun k => if c then g k else f k) p n Q := Dr.cond (fun _ => h) (fun h' => absurd hc h')
/-- No newline. -/
def nl (t : ByteArray) : Prop := ∀ b ∈ t.data.toList, b ≠ 10
theorem nl_app {a b : ByteArray} (ha : nl a) (hb : nl b) : nl (a ++ b) := by
 intro c hc
 rw [ByteArray.data_append, Array.toList_append] at hc
 rcases List.mem_append.1 hc with hc | hc
 ·exact ha c hc
 ·exact hb c hc
theorem lz (l : List UInt8) (n : Nat) (h : l.length = n) (h2 : l.all (fun b => b != 10) = true) : (⟨l.toArray⟩ : ByteArray).size = n ∧ nl (⟨l.toArray⟩ : ByteArray) := by
 refine ⟨by rw [← size_data]; exact h, fun b hb => ?_⟩
 have := List.all_eq_true.1 h2 b hb
 exact fun e => by rw [e] at this; exact absurd this (by decide)
/-- A short text without newline. -/
def okB (v : ByteArray) : Bool := decide (v.size ≤ 32) && v.data.toList.all (fun b => b != 10)
theorem okB_of {v : ByteArray} (h : okB v = true) : v.size ≤ 32 ∧ nl v := by
 unfold okB at h
 rw [Bool.and_eq_true, decide_eq_true_eq] at h
 refine ⟨h.1, fun b hb e => ?_⟩
 have := List.all_eq_true.1 h.2 b hb
 rw [e] at this
 exact absurd this (by decide)
theorem okB_mem {xs : List ByteArray} (h : xs.all okB = true) {v : ByteArray} (hv : v ∈ xs) : v.size ≤ 32 ∧ nl v := okB_of (List.all_eq_true.1 h v hv)
theorem itoa_nl (z : Int) (h1 : -100000 ≤ z) (h2 : z ≤ 100000) : (ofL (Lib.itoa z)).size ≤ 32 ∧ nl (ofL (Lib.itoa z)) ∧ (∀ b ∈ Lib.itoa z, b ≠ 10) ∧ (0 ≤ z → ∀ b ∈ Lib.itoa z, b ≠ 32) := by
 have key : ∀ u : Nat, u ≤ 100000 → (Lib.decDigits u).length ≤ 20 ∧ ∀ b ∈ Lib.decDigits u, b ≠ 10 ∧ b ≠ 32 := by
  intro u hu
  refine ⟨(decDigits_len u (Nat.lt_of_le_of_lt hu (by decide))).2, ?_⟩
  by_cases h0 : u = 0
  ·subst h0
   rw [Lib.decDigits]
   intro b hb
   simp at hb
   subst hb
   decide
  ·rw [revD_dec u h0]
   intro b hb
   obtain ⟨n, hn, rfl⟩ := List.mem_map.1 hb
   rw [List.mem_reverse] at hn
   have hr : ∀ (u : Nat), ∀ z ∈ revD u, 48 ≤ z ∧ z ≤ 57 := by
    intro u
    induction u using Nat.strongRecOn with
    | _ u ih =>
     intro z hz
     by_cases h0 : u = 0
     ·subst h0; rw [revD_zero] at hz; exact absurd hz (by simp)
     ·rw [revD_pos h0] at hz
      rcases List.mem_cons.1 hz with rfl | hz
      ·omega
      ·exact ih (u / 10) (by omega) z hz
   have := hr u n hn
   obtain ⟨m, rfl⟩ := Int.eq_ofNat_of_zero_le (show 0 ≤ n by omega)
   have hm : (m : Int).toNat = m := rfl
   rw [hm]
   constructor
   ·intro e
    have := congrArg UInt8.toNat e
    simp at this
    omega
   ·intro e
    have := congrArg UInt8.toNat e
    simp at this
    omega
 unfold Lib.itoa
 by_cases hz : z < 0
 ·rw [if_pos hz]
  have k1 := key z.natAbs (by omega)
  have n1 : ∀ b ∈ (45 :: Lib.decDigits z.natAbs : List UInt8), b ≠ 10 := by
   intro b hb
   rcases List.mem_cons.1 hb with rfl | hb
   ·decide
   ·exact (k1.2 b hb).1
  exact ⟨by rw [ofL_size, List.length_cons]; have := k1.1; omega, fun b hb => n1 b (by rw [ofL_data] at hb; exact hb), n1, fun h => by omega⟩
 ·rw [if_neg hz]
  have k1 := key z.toNat (by omega)
  exact ⟨by rw [ofL_size]; have := k1.1; omega, fun b hb => (k1.2 b (by rw [ofL_data] at hb; exact hb)).1, fun b hb => (k1.2 b hb).1, fun _ b hb => (k1.2 b hb).2⟩
theorem dec_ev (z : Int) (h1 : -100000 ≤ z) (h2 : z ≤ 100000) : Ev (fun k => spec_l01Dec.f k z) (ofL (Lib.itoa z)) := l01Dec_ev z (by omega) (by omega)
theorem few_l0 (l : List Int) (hl : ∀ x ∈ l, (Lit.int .u8 x).wf = true) : ∀ (d : Nat) (xs : List Int) (p : Nat) (hs : Int), p + d < 1000000 → xs.length + d ≤ 30 → (∀ x ∈ xs, x = 48 ∨ x = 49) →
 Dr (fun k => spec_l11DrawFew.l0 k xs (d : Int) l (p : Int) hs) p d (fun t => t.size ≤ 30 ∧ t.data.toList.all isBitB = true) := by
 intro d
 induction d with
 | zero =>
  intro xs p hs hp hx hb
  apply Dr.succ
  simp only [spec_l11DrawFew.l0]
  refine Dr.cond (fun h' => absurd h' (by omega)) (fun _ => ?_)
  exact Dr.ret 0 ⟨by rw [str_size]; omega, str_bits hb⟩
 | succ d ih =>
  intro xs p hs hp hx hb
  have e : wrap64 (((d + 1 : Nat) : Int) - 1) = (d : Int) := by rw [w64 (by omega) (by omega)]; omega
  apply Dr.succ
  simp only [spec_l11DrawFew.l0, e]
  refine Dr.yes (by omega) ?_
  refine Dr.bindN (m := d) (dr_pick l hl p hs 2 (by omega) (by omega) (by omega)) (fun v q hs2 hq hv => ?_) (by omega)
  dsimp only
  refine Dr.yes (by omega) ?_
  have hv2 : v = 0 ∨ v = 1 := by omega
  refine ih _ q hs2 (by omega) (by rw [List.length_append, List.length_singleton]; omega) (fun x hx2 => ?_)
  rcases List.mem_append.1 hx2 with hx2 | hx2
  ·exact hb x hx2
  ·rw [List.mem_singleton.1 hx2]
   rcases hv2 with rfl | rfl
   ·exact .inl (by decide +kernel)
   ·exact .inr (by decide +kernel)
theorem dr_few (l : List Int) (hl : ∀ x ∈ l, (Lit.int .u8 x).wf = true) (p : Nat) (hs : Int) (hp : p < 900000) : Dr (fun k => spec_l11DrawFew.f k l (p : Int) hs) p 40 (fun t => t.size ≤ 30 ∧ t.data.toList.all isBitB = true) := by
 have fin : ∀ (q : Nat) (hs2 : Int) (z : Int), q < 900010 → 0 ≤ z → z ≤ 24 → Dr (fun k => spec_l11DrawFew.j0 k [] z l (q : Int) hs2) q 30 (fun t => t.size ≤ 30 ∧ t.data.toList.all isBitB = true) := by
  intro q hs2 z hq h0 h1
  obtain ⟨n, rfl⟩ := Int.eq_ofNat_of_zero_le h0
  apply Dr.succ
  simp only [spec_l11DrawFew.j0]
  exact (few_l0 l hl n [] q hs2 (by omega) (by simp; omega) (fun x hx => absurd hx (by simp))).le (by omega) (fun _ h => h)
 unfold spec_l11DrawFew.f
 refine Dr.from (Ev.const rfl) ?_
 refine Dr.bindN (m := 35) (dr_pick l hl p hs 25 (by omega) (by omega) (by omega)) (fun v q hs2 hq hv => ?_) (by omega)
 dsimp only
 refine Dr.bindN (m := 33) (dr_one l hl q hs2 4 (by omega) (by omega) (by omega)) (fun b q2 hs3 hq2 _ => ?_) (by omega)
 dsimp only
 refine Dr.cond (fun _ => ?_) (fun _ => (fin q2 hs3 v (by omega) hv.1 (by omega)).le (by omega) (fun _ h => h))
 refine Dr.bindN (m := 30) (dr_among l hl q2 hs3 [0, 6, 9, 12, 15, 24] (by omega) (by decide) (by decide)) (fun z q3 hs4 hq3 hz => ?_) (by omega)
 dsimp only
 have hz2 : 0 ≤ z ∧ z ≤ 24 := by
  simp only [List.mem_cons, List.not_mem_nil, or_false] at hz
  omega
 exact fin q3 hs4 z (by omega) hz2.1 hz2.2
theorem text_l0 (xs : List Int) (hx : ∀ x ∈ xs, 0 ≤ x ∧ x ≤ 10) (hn : xs.length ≤ 4) : ∀ (d n : Nat) (s : ByteArray), n + d = xs.length → s.size ≤ 33 * n → nl s → ∃ t, Ev (fun k => spec_l01Text.l0 k xs s (n : Int)) t ∧ t.size ≤ 136 ∧ nl t := by
 intro d
 obtain ⟨z44, n44⟩ := lz [44] 1 rfl rfl
 obtain ⟨zno, nno⟩ := lz [110, 111, 110, 101] 4 rfl rfl
 induction d with
 | zero =>
  intro n s h hs hb
  have c1 : ¬ (n : Int) < (xs.length : Int) := by omega
  by_cases he : s.toList = ([] : List UInt8)
  ·refine ⟨_, ?_, Nat.le_trans (Nat.le_of_eq zno) (by omega), nno⟩
   apply Ev.succ
   simp only [spec_l01Text.l0]
   refine Ev.cond (fun h' => absurd h' c1) (fun _ => ?_)
   exact Ev.cond (fun _ => Ev.now _) (fun h' => absurd he h')
  ·refine ⟨s, ?_, by omega, hb⟩
   apply Ev.succ
   simp only [spec_l01Text.l0]
   refine Ev.cond (fun h' => absurd h' c1) (fun _ => ?_)
   exact Ev.cond (fun h' => absurd h' he) (fun _ => Ev.now _)
 | succ d ih =>
  intro n s h hs hb
  have hl : n < xs.length := by omega
  have hv := hx _ (rd_mem hl)
  obtain ⟨i1, i2, _, _⟩ := itoa_nl (rd xs (n : Int)) (by omega) (by omega)
  have hd := dec_ev (rd xs (n : Int)) (by omega) (by omega)
  generalize ofL (Lib.itoa (rd xs (n : Int))) = T at i1 i2 hd
  have c1 : (n : Int) < (xs.length : Int) := by omega
  have c2 : (0 : Int) ≤ (n : Int) := by omega
  by_cases h0 : (n : Int) > 0
  ·obtain ⟨t, ht, h4⟩ := ih (n + 1) ((s ++ (⟨#[44]⟩ : ByteArray)) ++ T) (by omega) (by simp only [ByteArray.size_append]; omega) (nl_app (nl_app hb n44) i2)
   refine ⟨t, ?_, h4⟩
   apply Ev.succ
   simp only [spec_l01Text.l0, w64_succ (show n < 9223372036854775807 by omega)]
   refine Ev.cond (fun _ => ?_) (fun h' => absurd c1 h')
   refine Ev.cond (fun _ => ?_) (fun h' => absurd h0 h')
   refine Ev.cond (fun _ => ?_) (fun h' => absurd (by omega) h')
   refine Ev.cond (fun _ => ?_) (fun h' => absurd c2 h')
   refine Ev.bind hd ?_
   exact Ev.cond (fun _ => ht) (fun h' => absurd (by simp only [ByteArray.size_append]; omega) h')
  ·obtain ⟨t, ht, h4⟩ := ih (n + 1) (s ++ T) (by omega) (by simp only [ByteArray.size_append]; omega) (nl_app hb i2)
   refine ⟨t, ?_, h4⟩
   apply Ev.succ
   simp only [spec_l01Text.l0, w64_succ (show n < 9223372036854775807 by omega)]
   refine Ev.cond (fun _ => ?_) (fun h' => absurd c1 h')
   refine Ev.cond (fun h' => absurd h' h0) (fun _ => ?_)
   refine Ev.cond (fun _ => ?_) (fun h' => absurd c2 h')
   refine Ev.bind hd ?_
   exact Ev.cond (fun _ => ht) (fun h' => absurd (by omega) h')
theorem text_ev (xs : List Int) (hx : ∀ x ∈ xs, 0 ≤ x ∧ x ≤ 10) (hn : xs.length ≤ 4) : ∃ t, Ev (fun k => spec_l01Text.f k xs) t ∧ t.size ≤ 136 ∧ nl t := text_l0 xs hx hn xs.length 0 (⟨#[]⟩ : ByteArray) (by omega) (Nat.zero_le _) (fun b hb => absurd hb (by simp))
/-- A line that is drawn. -/
def lineOk (t : ByteArray) : Prop := t.size ≤ 300 ∧ nl t
theorem line_l0 (l : List Int) (hl : ∀ x ∈ l, (Lit.int .u8 x).wf = true) (s : ByteArray) (hs0 : s.size ≤ 32) (hn0 : nl s) : ∀ (d : Nat) (xs : List Int) (p : Nat) (hs : Int), p + d + 2 < 1000000 → xs.length + d ≤ 4 → (∀ x ∈ xs, 0 ≤ x ∧ x ≤ 10) →
 Dr (fun k => spec_l11DrawLine.l0 k s xs (d : Int) l (p : Int) hs) p (d + 1) lineOk := by
 obtain ⟨z1, n1⟩ := lz [98, 108, 111, 99, 107, 115, 32] 7 rfl rfl
 obtain ⟨z2, n2⟩ := lz [32, 50, 32, 52, 32] 5 rfl rfl
 obtain ⟨z3, n3⟩ := lz [32] 1 rfl rfl
 intro d
 induction d with
 | zero =>
  intro xs p hs hp hx hb
  apply Dr.succ
  simp only [spec_l11DrawLine.l0]
  refine Dr.cond (fun h' => absurd h' (by omega)) (fun _ => ?_)
  refine Dr.bindN (m := 0) (dr_pick l hl p hs 2 (by omega) (by omega) (by omega)) (fun v q hs2 hq hv => ?_) (by omega)
  obtain ⟨T, hT, T1, T2⟩ := text_ev xs hb (by omega)
  have e : wrap64 ((wrap64 (2 * v)) - 1) = 2 * v - 1 := by rw [w64 (show -9223372036854775808 ≤ 2 * v by omega) (by omega), w64 (by omega) (by omega)]
  obtain ⟨i1, i2, _, _⟩ := itoa_nl (2 * v - 1) (by omega) (by omega)
  have hd := dec_ev (2 * v - 1) (by omega) (by omega)
  generalize ofL (Lib.itoa (2 * v - 1)) = D at i1 i2 hd
  dsimp only
  simp only [e]
  clear e
  refine Dr.yes (by omega) (Dr.yes (by simp only [ByteArray.size_append]; omega) (Dr.from hd (Dr.yes (by simp only [ByteArray.size_append]; omega) (Dr.yes (by simp only [ByteArray.size_append]; omega) (Dr.from hT (Dr.yes (by simp only [ByteArray.size_append]; omega) ?_))))))
  exact Dr.ret 0 ⟨by simp only [ByteArray.size_append]; omega, nl_app (nl_app (nl_app (nl_app (nl_app n1 hn0) n2) i2) n3) T2⟩
 | succ d ih =>
  intro xs p hs hp hx hb
  have e : wrap64 (((d + 1 : Nat) : Int) - 1) = (d : Int) := by rw [w64 (by omega) (by omega)]; omega
  apply Dr.succ
  simp only [spec_l11DrawLine.l0, e]
  refine Dr.yes (by omega) ?_
  refine Dr.bindN (m := d + 1) (dr_pick l hl p hs 4 (by omega) (by omega) (by omega)) (fun v q hs2 hq hv => ?_) (by omega)
  dsimp only
  refine Dr.yes (by omega) ?_
  refine ih _ q hs2 (by omega) (by rw [List.length_append, List.length_singleton]; omega) (fun x hx2 => ?_)
  rcases List.mem_append.1 hx2 with hx2 | hx2
  ·exact hb x hx2
  ·rw [List.mem_singleton.1 hx2]; omega
theorem line_j1 (l : List Int) (hl : ∀ x ∈ l, (Lit.int .u8 x).wf = true) (s : ByteArray) (hs0 : s.size ≤ 32) (hn0 : nl s) (p : Nat) (hs : Int) (hp : p < 800000) : Dr (fun k => spec_l11DrawLine.j1 k s l (p : Int) hs) p 60 lineOk := by
 obtain ⟨z3, n3⟩ := lz [32] 1 rfl rfl
 apply Dr.succ
 simp only [spec_l11DrawLine.j1]
 refine Dr.bindN (m := 59) (dr_text l hl p hs _ (by omega) (by decide) (by decide)) (fun f q1 h1 hq1 hf => ?_) (by omega)
 obtain ⟨f1, f2⟩ := okB_mem (by decide +kernel) hf
 clear hf
 dsimp only
 refine Dr.bindN (m := 58) (dr_pick l hl q1 h1 9 (by omega) (by omega) (by omega)) (fun c q2 h2 hq2 hc => ?_) (by omega)
 dsimp only
 refine Dr.cond (fun _ => ?_) (fun _ => ?_)
 ·refine Dr.bindN (m := 0) (dr_text l hl q2 h2 _ (by omega) (by decide) (by decide)) (fun t q3 h3 hq3 ht => ?_) (by omega)
  obtain ⟨t1, t2⟩ := okB_mem (by decide +kernel) ht
  dsimp only
  exact Dr.ret 0 ⟨by omega, t2⟩
 refine Dr.cond (fun _ => ?_) (fun _ => ?_)
 ·obtain ⟨z1, n1⟩ := lz [115, 101, 116, 32] 4 rfl rfl
  refine Dr.yes (by omega) (Dr.yes (by simp only [ByteArray.size_append]; omega) ?_)
  refine Dr.bindN (m := 0) (dr_few l hl q2 h2 (by omega)) (fun b q3 h3 hq3 hb => ?_) (by omega)
  dsimp only
  have hsh : ∃ t, spec_l11Show.f b = some t ∧ t.size ≤ 32 ∧ nl t := by
   unfold spec_l11Show.f
   by_cases he : b.toList = ([] : List UInt8)
   ·rw [if_pos he]
    obtain ⟨y1, y2⟩ := lz [110, 111, 110, 101] 4 rfl rfl
    exact ⟨_, rfl, Nat.le_trans (Nat.le_of_eq y1) (by omega), y2⟩
   ·rw [if_neg he]
    refine ⟨b, rfl, by have := hb.1; omega, fun c hc e => ?_⟩
    have := List.all_eq_true.1 hb.2 c hc
    rw [e] at this
    exact absurd this (by decide)
  obtain ⟨t, e, t1, t2⟩ := hsh
  refine Dr.from (Ev.const e) (Dr.yes (by simp only [ByteArray.size_append]; omega) ?_)
  exact Dr.ret 0 ⟨by simp only [ByteArray.size_append]; omega, nl_app (nl_app (nl_app n1 f2) n3) t2⟩
 refine Dr.cond (fun _ => ?_) (fun _ => ?_)
 ·refine Dr.bindN (m := 0) (dr_text l hl q2 h2 _ (by omega) (by decide) (by decide)) (fun t q3 h3 hq3 ht => ?_) (by omega)
  obtain ⟨t1, t2⟩ := okB_mem (by decide +kernel) ht
  dsimp only
  refine Dr.yes (by omega) ?_
  exact Dr.ret 0 ⟨by simp only [ByteArray.size_append]; omega, nl_app t2 hn0⟩
 refine Dr.cond (fun _ => ?_) (fun _ => ?_)
 ·obtain ⟨z1, n1⟩ := lz [102, 108, 105, 112, 32] 5 rfl rfl
  refine Dr.yes (by omega) (Dr.yes (by simp only [ByteArray.size_append]; omega) ?_)
  refine Dr.bindN (m := 0) (dr_pick l hl q2 h2 26 (by omega) (by omega) (by omega)) (fun v q3 h3 hq3 hv => ?_) (by omega)
  have e : wrap64 (v - 1) = v - 1 := w64 (by omega) (by omega)
  obtain ⟨i1, i2, _, _⟩ := itoa_nl (v - 1) (by omega) (by omega)
  have hd := dec_ev (v - 1) (by omega) (by omega)
  generalize ofL (Lib.itoa (v - 1)) = D at i1 i2 hd
  dsimp only
  simp only [e]
  clear e
  refine Dr.from hd (Dr.yes (by simp only [ByteArray.size_append]; omega) ?_)
  exact Dr.ret 0 ⟨by simp only [ByteArray.size_append]; omega, nl_app (nl_app (nl_app n1 hn0) n3) i2⟩
 refine Dr.cond (fun _ => ?_) (fun _ => ?_)
 ·refine Dr.bindN (m := 6) (dr_pick l hl q2 h2 5 (by omega) (by omega) (by omega)) (fun v q3 h3 hq3 hv => ?_) (by omega)
  obtain ⟨n, rfl⟩ := Int.eq_ofNat_of_zero_le hv.1
  dsimp only
  exact (line_l0 l hl f f1 f2 n [] q3 h3 (by omega) (by simp; omega) (fun x hx => absurd hx (by simp))).le (by omega) (fun _ h => h)
 refine Dr.cond (fun _ => ?_) (fun _ => ?_)
 ·obtain ⟨z1, n1⟩ := lz [100, 97, 116, 97, 32] 5 rfl rfl
  obtain ⟨z4, n4⟩ := lz [52, 32] 2 rfl rfl
  refine Dr.bindN (m := 1) (dr_pick l hl q2 h2 2 (by omega) (by omega) (by omega)) (fun v q3 h3 hq3 hv => ?_) (by omega)
  dsimp only
  refine Dr.yes (by omega) (Dr.yes (by simp only [ByteArray.size_append]; omega) ?_)
  refine Dr.bindN (m := 0) (dr_pick l hl q3 h3 2 (by omega) (by omega) (by omega)) (fun u q4 h4 hq4 hu => ?_) (by omega)
  have e : wrap64 (1 + u) = 1 + u := w64 (by omega) (by omega)
  have e2 : wrap64 ((wrap64 (2 * v)) - 1) = 2 * v - 1 := by rw [w64 (show -9223372036854775808 ≤ 2 * v by omega) (by omega), w64 (by omega) (by omega)]
  obtain ⟨i1, i2, _, _⟩ := itoa_nl (1 + u) (by omega) (by omega)
  have hd := dec_ev (1 + u) (by omega) (by omega)
  generalize ofL (Lib.itoa (1 + u)) = D at i1 i2 hd
  obtain ⟨j1, j2, _, _⟩ := itoa_nl (2 * v - 1) (by omega) (by omega)
  have hd2 := dec_ev (2 * v - 1) (by omega) (by omega)
  generalize ofL (Lib.itoa (2 * v - 1)) = E at j1 j2 hd2
  dsimp only
  simp only [e, e2]
  clear e e2
  refine Dr.from hd (Dr.yes (by simp only [ByteArray.size_append]; omega) (Dr.yes (by simp only [ByteArray.size_append]; omega) (Dr.yes (by simp only [ByteArray.size_append]; omega) (Dr.from hd2 (Dr.yes (by simp only [ByteArray.size_append]; omega) ?_)))))
  exact Dr.ret 0 ⟨by simp only [ByteArray.size_append]; omega, nl_app (nl_app (nl_app (nl_app (nl_app (nl_app n1 hn0) n3) i2) n3) n4) j2⟩
 refine Dr.cond (fun _ => ?_) (fun _ => ?_)
 ·refine Dr.bindN (m := 10) (dr_text l hl q2 h2 _ (by omega) (by decide) (by decide)) (fun t q3 h3 hq3 ht => ?_) (by omega)
  obtain ⟨t1, t2⟩ := okB_mem (by decide +kernel) ht
  dsimp only
  refine Dr.bindN (m := 9) (dr_pick l hl q3 h3 12 (by omega) (by omega) (by omega)) (fun v q4 h4 hq4 hv => ?_) (by omega)
  have e : wrap64 (1 + v) = 1 + v := w64 (by omega) (by omega)
  obtain ⟨i1, i2, _, _⟩ := itoa_nl (1 + v) (by omega) (by omega)
  have hd := dec_ev (1 + v) (by omega) (by omega)
  generalize ofL (Lib.itoa (1 + v)) = D at i1 i2 hd
  dsimp only
  simp only [e]
  clear e
  refine Dr.yes (by omega) (Dr.yes (by simp only [ByteArray.size_append]; omega) (Dr.yes (by simp only [ByteArray.size_append]; omega) (Dr.yes (by simp only [ByteArray.size_append]; omega) (Dr.from hd (Dr.yes (by simp only [ByteArray.size_append]; omega) (Dr.yes (by simp only [ByteArray.size_append]; omega) ?_))))))
  refine Dr.bindN (m := 0) (dr_pick l hl q4 h4 12 (by omega) (by omega) (by omega)) (fun u q5 h5 hq5 hu => ?_) (by omega)
  have e : wrap64 (1 + u) = 1 + u := w64 (by omega) (by omega)
  obtain ⟨j1, j2, _, _⟩ := itoa_nl (1 + u) (by omega) (by omega)
  have hd2 := dec_ev (1 + u) (by omega) (by omega)
  generalize ofL (Lib.itoa (1 + u)) = E at j1 j2 hd2
  dsimp only
  simp only [e]
  clear e
  refine Dr.from hd2 (Dr.yes (by simp only [ByteArray.size_append]; omega) ?_)
  exact Dr.ret 0 ⟨by simp only [ByteArray.size_append]; omega, nl_app (nl_app (nl_app (nl_app (nl_app (nl_app (nl_app t2 f2) n3) hn0) n3) i2) n3) j2⟩
 refine Dr.cond (fun _ => ?_) (fun _ => ?_)
 ·refine Dr.bindN (m := 10) (dr_text l hl q2 h2 _ (by omega) (by decide) (by decide)) (fun t q3 h3 hq3 ht => ?_) (by omega)
  obtain ⟨t1, t2⟩ := okB_mem (by decide +kernel) ht
  dsimp only
  refine Dr.yes (by omega) (Dr.yes (by simp only [ByteArray.size_append]; omega) (Dr.yes (by simp only [ByteArray.size_append]; omega) (Dr.yes (by simp only [ByteArray.size_append]; omega) ?_)))
  refine Dr.bindN (m := 0) (dr_pick l hl q3 h3 3 (by omega) (by omega) (by omega)) (fun v q4 h4 hq4 hv => ?_) (by omega)
  have e : wrap64 (1 + (wrap64 (2 * v))) = 1 + 2 * v := by rw [w64 (show -9223372036854775808 ≤ 2 * v by omega) (by omega), w64 (by omega) (by omega)]
  obtain ⟨i1, i2, _, _⟩ := itoa_nl (1 + 2 * v) (by omega) (by omega)
  have hd := dec_ev (1 + 2 * v) (by omega) (by omega)
  generalize ofL (Lib.itoa (1 + 2 * v)) = D at i1 i2 hd
  dsimp only
  simp only [e]
  clear e
  refine Dr.from hd (Dr.yes (by simp only [ByteArray.size_append]; omega) ?_)
  exact Dr.ret 0 ⟨by simp only [ByteArray.size_append]; omega, nl_app (nl_app (nl_app (nl_app (nl_app t2 f2) n3) hn0) n3) i2⟩
 refine Dr.bindN (m := 10) (dr_among l hl q2 h2 [11, 13, 19, 7, 2, 1] (by omega) (by decide) (by decide)) (fun v q3 h3 hq3 hv => ?_) (by omega)
 have hv2 : 0 ≤ v ∧ v ≤ 19 := by
  simp only [List.mem_cons, List.not_mem_nil, or_false] at hv
  omega
 obtain ⟨i1, i2, _, _⟩ := itoa_nl v (by omega) (by omega)
 have hd := dec_ev v (by omega) (by omega)
 generalize ofL (Lib.itoa v) = D at i1 i2 hd
 dsimp only
 refine Dr.bindN (m := 0) (dr_one l hl q3 h3 2 (by omega) (by omega) (by omega)) (fun b q4 h4 hq4 _ => ?_) (by omega)
 dsimp only
 refine Dr.cond (fun _ => ?_) (fun _ => ?_)
 ·obtain ⟨z1, n1⟩ := lz [118, 101, 114, 105, 102, 121, 32] 7 rfl rfl
  refine Dr.yes (by omega) (Dr.yes (by simp only [ByteArray.size_append]; omega) (Dr.from hd (Dr.yes (by simp only [ByteArray.size_append]; omega) ?_)))
  exact Dr.ret 0 ⟨by simp only [ByteArray.size_append]; omega, nl_app (nl_app (nl_app n1 hn0) n3) i2⟩
 ·obtain ⟨z1, n1⟩ := lz [99, 104, 101, 99, 107, 32] 6 rfl rfl
  refine Dr.yes (by omega) (Dr.yes (by simp only [ByteArray.size_append]; omega) (Dr.yes (by simp only [ByteArray.size_append]; omega) (Dr.yes (by simp only [ByteArray.size_append]; omega) (Dr.from hd (Dr.yes (by simp only [ByteArray.size_append]; omega) ?_)))))
  exact Dr.ret 0 ⟨by simp only [ByteArray.size_append]; omega, nl_app (nl_app (nl_app (nl_app (nl_app n1 f2) n3) hn0) n3) i2⟩
theorem dr_line (l : List Int) (hl : ∀ x ∈ l, (Lit.int .u8 x).wf = true) (ns : List ByteArray) (hns : ns.all okB = true) (hlen : ns.length ≤ 200) (p : Nat) (hs : Int) (hp : p < 700000) : Dr (fun k => spec_l11DrawLine.f k l (p : Int) hs ns) p 70 lineOk := by
 have j0 : ∀ (s : ByteArray) (b : Bool) (q : Nat) (h : Int), s.size ≤ 32 → nl s → (b = true → 1 ≤ ns.length) → q < 700010 → Dr (fun k => spec_l11DrawLine.j0 k ns s b l (q : Int) h) q 62 lineOk := by
  intro s b q h h1 h2 h3 hq
  apply Dr.succ
  simp only [spec_l11DrawLine.j0]
  refine Dr.cond (fun hb => ?_) (fun _ => (line_j1 l hl s h1 h2 q h (by omega)).le (by omega) (fun _ h => h))
  refine Dr.bindN (m := 60) (dr_text l hl q h ns (by omega) (h3 hb) hlen) (fun t q3 h3 hq3 ht => ?_) (by omega)
  obtain ⟨t1, t2⟩ := okB_mem hns ht
  exact line_j1 l hl t t1 t2 q3 h3 (by omega)
 unfold spec_l11DrawLine.f
 refine Dr.bindN (m := 65) (dr_text l hl p hs _ (by omega) (by decide) (by decide)) (fun t q h hq ht => ?_) (by omega)
 obtain ⟨t1, t2⟩ := okB_mem (by decide +kernel) ht
 dsimp only
 refine Dr.cond (fun hc => ?_) (fun _ => (j0 t false q h t1 t2 (fun h' => absurd h' (by decide)) (by omega)).le (by omega) (fun _ h => h))
 refine Dr.bindN (m := 62) (dr_one l hl q h 6 (by omega) (by omega) (by omega)) (fun b q4 h4 hq4 _ => ?_) (by omega)
 exact j0 t (!b) q4 h4 t1 t2 (fun _ => by omega) (by omega)
theorem idxS_lt : ∀ (r : List ByteArray) (n : Nat) (x : ByteArray), idxS r n x < (n : Int) + (r.length : Int)
 | [], n, x => by
  have e : idxS [] n x = -1 := rfl
  rw [e, List.length_nil]; omega
 | y :: r, n, x => by
  have ih := idxS_lt r (n + 1) x
  unfold idxS
  rw [List.length_cons]
  split <;> omega
theorem set_l0 (ns : List ByteArray) (name : ByteArray) (hn : ns.length ≤ 1000) : ∀ (d n : Nat), n + d = ns.length → ∃ m : Nat, m ≤ ns.length ∧ Ev (fun k => spec_l11Set.l0 k ns name (n : Int)) (m : Int) := by
 intro d
 induction d with
 | zero =>
  intro n h
  have c1 : ¬ (n : Int) < (ns.length : Int) := by omega
  refine ⟨n, by omega, ?_⟩
  apply Ev.succ
  simp only [spec_l11Set.l0]
  exact Ev.cond (fun h' => absurd h' c1) (fun _ => Ev.now _)
 | succ d ih =>
  intro n h
  have c1 : (n : Int) < (ns.length : Int) := by omega
  have c2 : (0 : Int) ≤ (n : Int) := by omega
  by_cases hb : Op.bytesLess ((rdOf ByteArray.empty ns (n : Int)).toList) (name.toList) = true
  ·obtain ⟨m, h1, h2⟩ := ih (n + 1) (by omega)
   refine ⟨m, h1, ?_⟩
   apply Ev.succ
   simp only [spec_l11Set.l0, w64_succ (show n < 9223372036854775807 by omega)]
   refine Ev.cond (fun _ => ?_) (fun h' => absurd c1 h')
   refine Ev.cond (fun _ => ?_) (fun h' => absurd c2 h')
   exact Ev.cond (fun _ => h2) (fun h' => absurd hb h')
  ·refine ⟨n, by omega, ?_⟩
   apply Ev.succ
   simp only [spec_l11Set.l0]
   refine Ev.cond (fun _ => ?_) (fun h' => absurd c1 h')
   refine Ev.cond (fun _ => ?_) (fun h' => absurd c2 h')
   exact Ev.cond (fun h' => absurd h' hb) (fun _ => Ev.now _)
/-- Names and lines of a console that is drawn. -/
def CI (ns ls : List ByteArray) : Prop := ls.length = ns.length ∧ ns.length ≤ 6 ∧ ns.all okB = true
theorem set_ev (ns ls : List ByteArray) (h : CI ns ls) (name bits : ByteArray) (hn : okB name = true) (hm : nameB name = true) (hb : bits.size ≤ 30 ∧ bits.data.toList.all isBitB = true) :
 ∃ (r : ByteArray) (ns' ls' : List ByteArray), Ev (fun k => spec_l11Set.f k ns ls name bits true) (r, ns', ls') ∧ CI ns' ls' := by
 obtain ⟨h1, h2, h3⟩ := h
 have eb : bitsB bits = true := by unfold bitsB; rw [hb.2, decide_eq_true (show bits.size ≤ 400 by omega)]; rfl
 have hbits := l01Bits_ev bits (by omega)
 rw [eb] at hbits
 have hfind : Ev (fun k => spec_l11Find.f k ns name) (idxS ns 0 name) := l03Index_ev ns name (by omega)
 have hlt := idxS_lt ns 0 name
 have hname := IsNameS_ev name (by have := (okB_of hn).1; omega)
 rw [hm] at hname
 unfold spec_l11Set.f
 by_cases hi : idxS ns 0 name ≥ 0
 ·refine ⟨(⟨#[111, 107]⟩ : ByteArray), ns, ls.set (idxS ns 0 name).toNat bits, ?_, ⟨by rw [List.length_set]; exact h1, h2, h3⟩⟩
  refine Ev.cond (fun _ => ?_) (fun h' => absurd rfl h')
  refine Ev.bind hbits (Ev.cond (fun _ => ?_) (fun h' => absurd rfl h'))
  refine Ev.bind hfind (Ev.cond (fun _ => ?_) (fun h' => absurd hi h'))
  exact Ev.cond (fun _ => Ev.now _) (fun h' => absurd (by omega) h')
 by_cases h6 : (ns.length : Int) ≥ 6
 ·refine ⟨(⟨#[110, 111]⟩ : ByteArray), ns, ls, ?_, ⟨h1, h2, h3⟩⟩
  refine Ev.cond (fun _ => ?_) (fun h' => absurd rfl h')
  refine Ev.bind hbits (Ev.cond (fun _ => ?_) (fun h' => absurd rfl h'))
  refine Ev.bind hfind (Ev.cond (fun h' => absurd h' hi) (fun _ => ?_))
  refine Ev.bind hname (Ev.cond (fun _ => ?_) (fun h' => absurd rfl h'))
  exact Ev.cond (fun _ => Ev.now _) (fun h' => absurd h6 h')
 obtain ⟨m, hm1, hm2⟩ := set_l0 ns name (by omega) ns.length 0 (by omega)
 refine ⟨(⟨#[111, 107]⟩ : ByteArray), (ns.take (m : Int).toNat ++ [name]) ++ ns.drop (m : Int).toNat, (ls.take (m : Int).toNat ++ [bits]) ++ ls.drop (m : Int).toNat, ?_, ⟨?_, ?_, ?_⟩⟩
 ·refine Ev.cond (fun _ => ?_) (fun h' => absurd rfl h')
  refine Ev.bind hbits (Ev.cond (fun _ => ?_) (fun h' => absurd rfl h'))
  refine Ev.bind hfind (Ev.cond (fun h' => absurd h' hi) (fun _ => ?_))
  refine Ev.bind hname (Ev.cond (fun _ => ?_) (fun h' => absurd rfl h'))
  refine Ev.cond (fun h' => absurd h' h6) (fun _ => ?_)
  refine Ev.bind hm2 ?_
  exact Ev.cond (fun _ => Ev.now _) (fun h' => absurd ⟨by omega, by omega, by omega, by omega⟩ h')
 ·simp only [List.length_append, List.length_take, List.length_drop, List.length_singleton]; omega
 ·simp only [List.length_append, List.length_take, List.length_drop, List.length_singleton]; omega
 ·rw [List.all_eq_true] at h3 ⊢
  intro x hx
  simp only [List.mem_append, List.mem_singleton] at hx
  rcases hx with (hx | rfl) | hx
  ·exact h3 x (List.mem_of_mem_take hx)
  ·exact hn
  ·exact h3 x (List.mem_of_mem_drop hx)
theorem ok_l0 (l : List Int) (hl : ∀ x ∈ l, (Lit.int .u8 x).wf = true) : ∀ (d : Nat) (ns ls : List ByteArray) (p : Nat) (hs : Int), p + 50 * d < 500000 → d ≤ 1000 → CI ns ls →
 ∃ (ns' ls' : List ByteArray) (q h : Int), Ev (fun k => spec_l11DrawOk.l0 k l ns ls (d : Int) (p : Int) hs) (ns', ls', q, h) ∧ CI ns' ls' := by
 intro d
 induction d with
 | zero =>
  intro ns ls p hs hp hd hc
  refine ⟨ns, ls, p, hs, ?_, hc⟩
  apply Ev.succ
  simp only [spec_l11DrawOk.l0]
  exact Ev.cond (fun h' => absurd h' (by omega)) (fun _ => Ev.now _)
 | succ d ih =>
  intro ns ls p hs hp hd hc
  obtain ⟨v, q, h1, e1, hq1, hv⟩ := dr_text l hl p hs ([(⟨#[97]⟩ : ByteArray), (⟨#[98]⟩ : ByteArray), (⟨#[119, 105, 114, 101]⟩ : ByteArray), (⟨#[120]⟩ : ByteArray), (⟨#[102, 97, 114]⟩ : ByteArray)] : List ByteArray) (by omega) (by decide) (by decide)
  obtain ⟨b, q2, h2, e2, hq2, hb⟩ := dr_few l hl q h1 (by omega)
  have hn : okB v = true := List.all_eq_true.1 (show ([(⟨#[97]⟩ : ByteArray), (⟨#[98]⟩ : ByteArray), (⟨#[119, 105, 114, 101]⟩ : ByteArray), (⟨#[120]⟩ : ByteArray), (⟨#[102, 97, 114]⟩ : ByteArray)] : List ByteArray).all okB = true by decide +kernel) v hv
  have hm : nameB v = true := List.all_eq_true.1 (show ([(⟨#[97]⟩ : ByteArray), (⟨#[98]⟩ : ByteArray), (⟨#[119, 105, 114, 101]⟩ : ByteArray), (⟨#[120]⟩ : ByteArray), (⟨#[102, 97, 114]⟩ : ByteArray)] : List ByteArray).all nameB = true by decide +kernel) v hv
  obtain ⟨r, ns1, ls1, e3, hc1⟩ := set_ev ns ls hc v b hn hm hb
  obtain ⟨ns2, ls2, q3, h3, e4, hc2⟩ := ih ns1 ls1 q2 h2 (by omega) (by omega) hc1
  have e : wrap64 (((d + 1 : Nat) : Int) - 1) = (d : Int) := by rw [w64 (by omega) (by omega)]; omega
  refine ⟨ns2, ls2, q3, h3, ?_, hc2⟩
  apply Ev.succ
  simp only [spec_l11DrawOk.l0, e]
  refine Ev.cond (fun _ => ?_) (fun h' => absurd (by omega) h')
  exact Ev.bind e1 (Ev.bind e2 (Ev.bind e3 e4))
theorem cons_ev (l : List Int) (hl : ∀ x ∈ l, (Lit.int .u8 x).wf = true) : ∃ ns ls : List ByteArray, Ev (fun k => spec_B10Console.f k l) (ns, ls) ∧ CI ns ls := by
 obtain ⟨v, q, h, e1, hq, hv⟩ := dr_pick l hl 0 0 4 (by omega) (by omega) (by omega)
 obtain ⟨n, rfl⟩ := Int.eq_ofNat_of_zero_le hv.1
 obtain ⟨ns, ls, q2, h2, e2, hc⟩ := ok_l0 l hl n [] [] q h (by omega) (by omega) ⟨rfl, by simp, rfl⟩
 refine ⟨ns, ls, ?_, hc⟩
 unfold spec_B10Console.f spec_l00From.f spec_l11DrawOk.f
 exact Ev.bind (Ev.const rfl) (Ev.bind (Ev.bind e1 e2) (Ev.now _))
theorem lines_l0 (l : List Int) (hl : ∀ x ∈ l, (Lit.int .u8 x).wf = true) (ns : List ByteArray) (hns : ns.all okB = true) (hlen : ns.length ≤ 200) : ∀ (d : Nat) (out : List ByteArray) (p : Nat) (hs : Int), p + 100 * d < 500000 → out.length + d ≤ 6 → (∀ x ∈ out, lineOk x) →
 ∃ ws : List ByteArray, Ev (fun k => spec_B10Lines.l0 k l ns out (d : Int) (p : Int) hs) ws ∧ ws.length ≤ 6 ∧ ∀ x ∈ ws, lineOk x := by
 intro d
 induction d with
 | zero =>
  intro out p hs hp hd ho
  refine ⟨out, ?_, by omega, ho⟩
  apply Ev.succ
  simp only [spec_B10Lines.l0]
  exact Ev.cond (fun h' => absurd h' (by omega)) (fun _ => Ev.now _)
 | succ d ih =>
  intro out p hs hp hd ho
  obtain ⟨v, q, h1, e1, hq1, hv⟩ := dr_line l hl ns hns hlen p hs (by omega)
  obtain ⟨ws, e2, h2, h3⟩ := ih (out ++ [v]) q h1 (by omega) (by rw [List.length_append, List.length_singleton]; omega) (fun x hx => by
   rcases List.mem_append.1 hx with hx | hx
   ·exact ho x hx
   ·rw [List.mem_singleton.1 hx]; exact hv)
  have e : wrap64 (((d + 1 : Nat) : Int) - 1) = (d : Int) := by rw [w64 (by omega) (by omega)]; omega
  refine ⟨ws, ?_, h2, h3⟩
  apply Ev.succ
  simp only [spec_B10Lines.l0, e]
  refine Ev.cond (fun _ => ?_) (fun h' => absurd (by omega) h')
  refine Ev.bind e1 ?_
  exact Ev.cond (fun _ => e2) (fun h' => absurd (by omega) h')
theorem lines_ev (l : List Int) (hl : ∀ x ∈ l, (Lit.int .u8 x).wf = true) (ns ls : List ByteArray) (hc : CI ns ls) : ∃ ws : List ByteArray, Ev (fun k => spec_B10Lines.f k l ns ls) ws ∧ ws.length ≤ 6 ∧ ∀ x ∈ ws, lineOk x := by
 obtain ⟨v, q, h, e1, hq, hv⟩ := dr_pick l hl 0 0 7 (by omega) (by omega) (by omega)
 obtain ⟨n, rfl⟩ := Int.eq_ofNat_of_zero_le hv.1
 obtain ⟨ws, e2, h2, h3⟩ := lines_l0 l hl ns hc.2.2 (by have := hc.2.1; omega) n [] q h (by omega) (by simp; omega) (fun x hx => absurd hx (by simp))
 refine ⟨ws, ?_, h2, h3⟩
 unfold spec_B10Lines.f spec_l00From.f
 exact Ev.bind (Ev.const rfl) (Ev.bind e1 e2)
/-- What stands for a line in a journal, without its end. -/
def body (c : Int) (x : ByteArray) : List UInt8 := Lib.itoa (ckL c x.data.toList) ++ 32 :: x.data.toList
def bodies : List ByteArray → Int → List (List UInt8)
 | [], _ => []
 | x :: r, c => body c x :: bodies r (ckL c x.data.toList)
/-- Lines, each with its end. -/
def flat : List (List UInt8) → List UInt8
 | [] => []
 | l :: r => l ++ 10 :: flat r
/-- How many ends of lines. -/
def cnt : List UInt8 → Nat
 | [] => 0
 | b :: l => if b = 10 then cnt l + 1 else cnt l
theorem bodies_length : ∀ (ws : List ByteArray) (c : Int), (bodies ws c).length = ws.length
 | [], _ => rfl
 | x :: r, c => by rw [bodies, List.length_cons, List.length_cons, bodies_length r]
theorem bodies_take : ∀ (ws : List ByteArray) (c : Int) (m : Nat), bodies (ws.take m) c = (bodies ws c).take m
 | [], c, m => by simp [bodies]
 | x :: r, c, 0 => by simp [bodies]
 | x :: r, c, m + 1 => by rw [List.take_succ_cons, bodies, bodies, List.take_succ_cons, bodies_take r]
theorem jn_data : ∀ (ws : List ByteArray) (c : Int) (a : ByteArray), (jn ws c a).data.toList = a.data.toList ++ flat (bodies ws c)
 | [], c, a => by simp [jn, bodies, flat]
 | x :: r, c, a => by
  have e : (piece c x).data.toList = body c x ++ [10] := by
   unfold piece body
   simp only [ByteArray.data_append, Array.toList_append, ofL_data, List.append_assoc]
   rfl
  rw [jn, jn_data r, ByteArray.data_append, Array.toList_append, e, bodies, flat]
  simp
theorem nl_body {x : ByteArray} (h : nl x) (c : Int) (hc : 0 ≤ c ∧ c ≤ 65002) : ∀ b ∈ body c x, b ≠ 10 := by
 have hk := ckL_in x.data.toList c hc
 obtain ⟨_, _, i3, _⟩ := itoa_nl (ckL c x.data.toList) (by omega) (by omega)
 intro b hb
 unfold body at hb
 rcases List.mem_append.1 hb with hb | hb
 ·exact i3 b hb
 ·rcases List.mem_cons.1 hb with rfl | hb
  ·decide
  ·exact h b hb
theorem nl_bodies : ∀ (ws : List ByteArray) (c : Int), 0 ≤ c ∧ c ≤ 65002 → (∀ x ∈ ws, nl x) → ∀ l ∈ bodies ws c, ∀ b ∈ l, b ≠ 10
 | [], c, _, _, l, hl => by simp [bodies] at hl
 | x :: r, c, hc, h, l, hl => by
  rw [bodies] at hl
  rcases List.mem_cons.1 hl with rfl | hl
  ·exact nl_body (h x List.mem_cons_self) c hc
  ·exact nl_bodies r _ (ckL_in _ c hc) (fun y hy => h y (List.mem_cons_of_mem _ hy)) l hl
theorem split_cons (c : UInt8) : ∀ (l r : List UInt8), (∀ b ∈ l, b ≠ c) → splitL c (l ++ c :: r) = l :: splitL c r
 | [], r, _ => by rw [List.nil_append, splitL, if_pos rfl]
 | b :: l, r, h => by
  rw [List.cons_append, splitL, if_neg (h b List.mem_cons_self), split_cons c l r (fun x hx => h x (List.mem_cons_of_mem _ hx))]
  rfl
theorem split_flat : ∀ (ls : List (List UInt8)) (t : List UInt8), (∀ l ∈ ls, ∀ b ∈ l, b ≠ 10) → splitL 10 (flat ls ++ t) = ls ++ splitL 10 t
 | [], t, _ => rfl
 | l :: r, t, h => by
  rw [flat, List.append_assoc, List.cons_append, split_cons 10 l _ (h l List.mem_cons_self), split_flat r t (fun x hx => h x (List.mem_cons_of_mem _ hx))]
  rfl
theorem split_app (c : UInt8) : ∀ (a b : List UInt8), ∃ z, splitL c (a ++ b) = (splitL c a).dropLast ++ z ∧ z ≠ []
 | [], b => ⟨splitL c b, rfl, by obtain ⟨h, r, e⟩ := splitL_ne c b; rw [e]; simp⟩
 | x :: a, b => by
  obtain ⟨z, e, hz⟩ := split_app c a b
  obtain ⟨h, r, e2⟩ := splitL_ne c a
  by_cases hx : x = c
  ·refine ⟨z, ?_, hz⟩
   rw [List.cons_append, splitL, if_pos hx, splitL, if_pos hx, e, e2]
   cases r <;> rfl
  ·rw [List.cons_append, splitL, if_neg hx, splitL, if_neg hx, e, e2]
   cases r with
   | nil =>
    cases z with
    | nil => exact absurd rfl hz
    | cons y z => exact ⟨([x] ++ y) :: z, rfl, by simp⟩
   | cons g r => exact ⟨z, rfl, hz⟩
theorem split_join : ∀ (l : List UInt8), (∃ t, l = flat (splitL 10 l).dropLast ++ t) ∧ (∀ x ∈ splitL 10 l, ∀ b ∈ x, b ≠ 10) ∧ (splitL 10 l).dropLast.length = cnt l
 | [] => ⟨⟨[], rfl⟩, fun x hx b hb => by simp [splitL] at hx; subst hx; exact absurd hb (by simp), rfl⟩
 | y :: l => by
  obtain ⟨⟨t, e⟩, h2, h3⟩ := split_join l
  obtain ⟨h, r, e2⟩ := splitL_ne 10 l
  by_cases hy : y = 10
  ·subst hy
   rw [splitL, if_pos rfl, cnt, if_pos rfl]
   rw [e2] at e h2 h3 ⊢
   refine ⟨⟨t, ?_⟩, fun x hx => ?_, ?_⟩
   ·show 10 :: l = flat ([] :: (h :: r).dropLast) ++ t
    rw [flat, List.nil_append, List.cons_append, ← e]
   ·rcases List.mem_cons.1 hx with rfl | hx
    ·exact fun b hb => absurd hb (by simp)
    ·exact h2 x hx
   ·show (([] : List UInt8) :: (h :: r).dropLast).length = _
    rw [List.length_cons, h3]
  ·rw [splitL, if_neg hy, cnt, if_neg hy]
   rw [e2] at e h2 h3 ⊢
   have h4 : ∀ b ∈ ([y] ++ h), b ≠ 10 := fun b hb => by
    rcases List.mem_cons.1 hb with rfl | hb
    ·exact hy
    ·exact h2 h List.mem_cons_self b hb
   cases r with
   | nil => exact ⟨⟨y :: l, rfl⟩, fun x hx => by rw [attach] at hx; rcases List.mem_cons.1 hx with rfl | hx; exact h4; exact absurd hx (by simp), h3⟩
   | cons g r =>
    refine ⟨⟨t, ?_⟩, fun x hx => ?_, h3⟩
    ·show y :: l = flat (([y] ++ h) :: (g :: r).dropLast) ++ t
     have e3 : l = (h ++ 10 :: flat (g :: r).dropLast) ++ t := e
     rw [flat, e3]; simp
    ·rw [attach] at hx
     rcases List.mem_cons.1 hx with rfl | hx
     ·exact h4
     ·exact h2 x (List.mem_cons_of_mem _ hx)
theorem idx_first (c : UInt8) : ∀ (a r : List UInt8), (∀ b ∈ a, b ≠ c) → Lib.indexByte (a ++ c :: r) c = (a.length : Int)
 | [], r, _ => by simp [Lib.indexByte]
 | b :: a, r, h => by
  have ih := idx_first c a r (fun x hx => h x (List.mem_cons_of_mem _ hx))
  have hb : (b == c) = false := beq_eq_false_iff_ne.2 (h b List.mem_cons_self)
  have hn : ((a.length : Int) == -1) = false := beq_eq_false_iff_ne.2 (by omega)
  rw [List.cons_append, Lib.indexByte, hb, ih, hn, List.length_cons]
  simp
theorem idx_none (c : UInt8) : ∀ (a : List UInt8), (∀ b ∈ a, b ≠ c) → Lib.indexByte a c = -1
 | [], _ => rfl
 | b :: a, h => by
  have ih := idx_none c a (fun x hx => h x (List.mem_cons_of_mem _ hx))
  have hb : (b == c) = false := beq_eq_false_iff_ne.2 (h b List.mem_cons_self)
  rw [Lib.indexByte, hb, ih]
  rfl
theorem idx_get (c : UInt8) : ∀ (l : List UInt8) (n : Nat), Lib.indexByte l c = (n : Int) → l = l.take n ++ c :: l.drop (n + 1)
 | [], n, h => by rw [Lib.indexByte] at h; omega
 | b :: l, n, h => by
  rw [Lib.indexByte] at h
  by_cases hb : b = c
  ·subst hb
   rw [if_pos (beq_self_eq_true b)] at h
   obtain rfl : n = 0 := by omega
   rfl
  ·rw [if_neg (by simp [hb])] at h
   by_cases h1 : Lib.indexByte l c = -1
   ·rw [h1] at h
    simp at h
    try omega
   ·rw [if_neg (by simp [h1])] at h
    have hge := Lib.indexByte_ge l c
    obtain ⟨m, rfl⟩ : ∃ m, n = m + 1 := ⟨n - 1, by omega⟩
    have ih := idx_get c l m (by omega)
    rw [List.take_succ_cons, List.drop_succ_cons, List.cons_append, ← ih]
theorem recL_gen : ∀ (ls : List (List UInt8)) (out : List ByteArray) (c n : Int), 0 ≤ c ∧ c ≤ 65002 → (∀ l ∈ ls, ∀ b ∈ l, b ≠ 10) →
 ∃ (m : Nat) (ext : List ByteArray), recL ls out c n = (out ++ ext, n + ((flat (ls.take m)).length : Int), true) ∧ m ≤ ls.length ∧ bodies ext c = ls.take m ∧ ∀ x ∈ ext, nl x
 | [], out, c, n, _, _ => ⟨0, [], by simp [recL, flat], Nat.le_refl _, rfl, fun x hx => absurd hx (by simp)⟩
 | l :: r, out, c, n, hc, h => by
  have none : recL (l :: r) out c n = (out, n, true) → ∃ (m : Nat) (ext : List ByteArray), recL (l :: r) out c n = (out ++ ext, n + ((flat ((l :: r).take m)).length : Int), true) ∧ m ≤ (l :: r).length ∧ bodies ext c = (l :: r).take m ∧ ∀ x ∈ ext, nl x := fun e =>
   ⟨0, [], by rw [e]; simp [flat], Nat.zero_le _, rfl, fun x hx => absurd hx (by simp)⟩
  rcases idx_cases 32 l with hi | ⟨i, hi, hl⟩
  ·exact none (recL_none hi r out c n)
  ·rw [recL_some hi]
   by_cases ht : l.take i = Lib.itoa (ckL c (l.drop (i + 1)))
   ·obtain ⟨m, ext, e, hm, hb, hx⟩ := recL_gen r (out ++ [ofL (l.drop (i + 1))]) (ckL c (l.drop (i + 1))) (n + ((l.length : Int) + 1)) (ckL_in _ c hc) (fun x hx => h x (List.mem_cons_of_mem _ hx))
    refine ⟨m + 1, ofL (l.drop (i + 1)) :: ext, ?_, by rw [List.length_cons]; omega, ?_, fun x hx2 => ?_⟩
    ·rw [if_pos ht, e, List.take_succ_cons, flat, List.append_assoc, List.singleton_append]
     simp only [List.length_append, List.length_cons, Prod.mk.injEq, and_true, true_and]
     omega
    ·rw [bodies, List.take_succ_cons, ofL_data, hb]
     congr 1
     unfold body
     rw [ofL_data, ← ht]
     exact (idx_get 32 l i hi).symm
    ·rcases List.mem_cons.1 hx2 with rfl | hx2
     ·intro b hb2
      rw [ofL_data] at hb2
      exact h l List.mem_cons_self b (List.mem_of_mem_drop hb2)
     ·exact hx x hx2
   ·rw [if_neg ht]
    exact ⟨0, [], by simp [flat], Nat.zero_le _, rfl, fun x hx => absurd hx (by simp)⟩
theorem recL_all : ∀ (ws : List ByteArray) (m : Nat) (out : List ByteArray) (c n : Int), 0 ≤ c ∧ c ≤ 65002 →
 recL ((bodies ws c).take m) out c n = (out ++ ws.take m, n + ((flat ((bodies ws c).take m)).length : Int), true)
 | [], m, out, c, n, _ => by simp [bodies, recL, flat]
 | x :: r, 0, out, c, n, _ => by simp [recL, flat]
 | x :: r, m + 1, out, c, n, hc => by
  have hk := ckL_in x.data.toList c hc
  obtain ⟨_, _, _, i4⟩ := itoa_nl (ckL c x.data.toList) (by omega) (by omega)
  have hi : Lib.indexByte (body c x) 32 = ((Lib.itoa (ckL c x.data.toList)).length : Int) := idx_first 32 _ _ (i4 hk.1)
  have h1 : (body c x).take (Lib.itoa (ckL c x.data.toList)).length = Lib.itoa (ckL c x.data.toList) := by unfold body; rw [List.take_append_of_le_length (Nat.le_refl _), List.take_length]
  have h2 : (body c x).drop ((Lib.itoa (ckL c x.data.toList)).length + 1) = x.data.toList := by
   unfold body
   rw [List.drop_append, List.drop_eq_nil_of_le (by omega), List.nil_append, show (Lib.itoa (ckL c x.data.toList)).length + 1 - (Lib.itoa (ckL c x.data.toList)).length = 1 by omega]
   rfl
  rw [bodies, List.take_succ_cons, recL_some hi, h1, h2, if_pos rfl, recL_all r m _ _ _ hk, ofL_of, List.take_succ_cons, flat, List.append_assoc, List.singleton_append]
  simp only [List.length_append, List.length_cons, Prod.mk.injEq, and_true, true_and]
  omega
theorem recL_ge : ∀ (ls : List (List UInt8)) (out : List ByteArray) (c n : Int), n ≤ (recL ls out c n).2.1
 | [], out, c, n => Int.le_refl _
 | l :: r, out, c, n => by
  unfold recL
  split
  ·exact Int.le_refl _
  ·split
   ·exact Int.le_trans (by omega) (recL_ge r _ _ _)
   ·exact Int.le_refl _
theorem recL_app : ∀ (A B : List (List UInt8)) (out : List ByteArray) (c n : Int), (recL A out c n).2.1 ≤ (recL (A ++ B) out c n).2.1
 | [], B, out, c, n => recL_ge B out c n
 | l :: r, B, out, c, n => by
  rw [List.cons_append]
  unfold recL
  split
  ·exact Int.le_refl _
  ·split
   ·exact recL_app r B _ _ _
   ·exact Int.le_refl _
theorem flat_take (ls : List (List UInt8)) (m : Nat) : ∃ t, flat ls = flat (ls.take m) ++ t := by
 induction ls generalizing m with
 | nil => exact ⟨[], by simp [flat]⟩
 | cons l r ih =>
  cases m with
  | zero => exact ⟨flat (l :: r), by simp [flat]⟩
  | succ m =>
   obtain ⟨t, e⟩ := ih m
   refine ⟨t, ?_⟩
   rw [List.take_succ_cons, flat, flat, e]
   simp
/-- What is recovered of any text is the journal of a beginning. -/
theorem rec_any (s : ByteArray) (hs : s.size ≤ 4000) : ∃ (out : List ByteArray) (n : Nat), recR s = (out, (n : Int), true) ∧ n ≤ s.size ∧ jR out = (s.extract 0 n, true) ∧ out.length ≤ n ∧ totS out ≤ n := by
 obtain ⟨⟨t, e⟩, h2, _⟩ := split_join s.data.toList
 obtain ⟨m, ext, e1, hm, hb, hx⟩ := recL_gen (splitL 10 s.data.toList).dropLast [] 0 0 (by omega) (fun l hl => h2 l (List.dropLast_subset _ hl))
 generalize hD : (splitL 10 s.data.toList).dropLast = D at e e1 hm hb
 obtain ⟨t2, e2⟩ := flat_take D m
 have hlen : (flat (D.take m)).length ≤ s.size := by
  rw [← size_data, e, e2]
  simp only [List.length_append]; omega
 have hpre : s.data.toList.take (flat (D.take m)).length = flat (D.take m) := by
  conv => lhs; rw [e, e2]
  rw [List.append_assoc, List.take_append_of_le_length (Nat.le_refl _), List.take_length]
 have hj : jn ext 0 (⟨#[]⟩ : ByteArray) = s.extract 0 (flat (D.take m)).length := by
  apply ByteArray.ext
  apply Array.ext'
  rw [jn_data, hb, ext_data, List.drop_zero, Nat.sub_zero, hpre]
  rfl
 have hsz : (jn ext 0 (⟨#[]⟩ : ByteArray)).size = (flat (D.take m)).length := by rw [hj, ByteArray.size_extract]; omega
 have hno : noNL ext = true := by
  unfold noNL
  rw [List.all_eq_true]
  intro x hx2
  rw [idx_none 10 _ (hx x hx2)]
  rfl
 have h3 := (jn_size ext 0 (⟨#[]⟩ : ByteArray) (by omega)).1
 have h4 : ∀ (l : List ByteArray), l.length ≤ sz3 l ∧ totS l ≤ sz3 l := by
  intro l
  induction l with
  | nil => exact ⟨Nat.le_refl _, Nat.le_refl _⟩
  | cons x r ih => rw [List.length_cons, sz3, totS]; omega
 have h5 := h4 ext
 refine ⟨ext, _, ?_, hlen, ?_, by omega, by omega⟩
 ·unfold recR
  rw [if_pos hs, hD, e1]
  simp
 ·unfold jR
  rw [if_pos ⟨hno, by omega⟩, hj]
theorem rec_mono (P S : ByteArray) (h : (P ++ S).size ≤ 4000) : (recR P).2.1 ≤ (recR (P ++ S)).2.1 := by
 have hp : P.size ≤ 4000 := by rw [ByteArray.size_append] at h; omega
 obtain ⟨z, e, hz⟩ := split_app 10 P.data.toList S.data.toList
 unfold recR
 rw [if_pos hp, if_pos h, ByteArray.data_append, Array.toList_append, e, List.dropLast_append_of_ne_nil hz]
 exact recL_app _ _ _ _ _
theorem ext_ext (T : ByteArray) (a n : Nat) (h : n ≤ a) : (T.extract 0 a).extract 0 n = T.extract 0 n := by
 apply ByteArray.ext
 apply Array.ext'
 rw [ext_data, ext_data, ext_data]
 simp only [List.drop_zero, Nat.sub_zero, List.take_take]
 rw [Nat.min_eq_left h]
theorem rec_cut (ws : List ByteArray) (hno : ∀ x ∈ ws, nl x) (hT : (jn ws 0 (⟨#[]⟩ : ByteArray)).size ≤ 4000) (a : Nat) (ha : a ≤ (jn ws 0 (⟨#[]⟩ : ByteArray)).size) :
 ∃ n m : Nat, recR ((jn ws 0 (⟨#[]⟩ : ByteArray)).extract 0 a) = (ws.take m, (n : Int), true) ∧ m ≤ ws.length ∧ n ≤ a ∧ jR (ws.take m) = ((jn ws 0 (⟨#[]⟩ : ByteArray)).extract 0 n, true) ∧ m = cnt ((jn ws 0 (⟨#[]⟩ : ByteArray)).data.toList.take a) := by
 have hd : (jn ws 0 (⟨#[]⟩ : ByteArray)).data.toList = flat (bodies ws 0) := by rw [jn_data]; rfl
 generalize hTT : jn ws 0 (⟨#[]⟩ : ByteArray) = T at hT ha hd ⊢
 have hP : (T.extract 0 a).data.toList = T.data.toList.take a := by rw [ext_data, List.drop_zero, Nat.sub_zero]
 have hsz : (T.extract 0 a).size = a := by rw [ByteArray.size_extract]; omega
 obtain ⟨out, n, e1, h1, h2, _, _⟩ := rec_any (T.extract 0 a) (by omega)
 have hs : splitL 10 T.data.toList = bodies ws 0 ++ [[]] := by
  have := split_flat (bodies ws 0) [] (nl_bodies ws 0 (by omega) hno)
  rw [List.append_nil] at this
  rw [hd, this]; rfl
 obtain ⟨z, e, hz⟩ := split_app 10 (T.data.toList.take a) (T.data.toList.drop a)
 rw [List.take_append_drop, hs] at e
 obtain ⟨_, _, hcnt⟩ := split_join (T.data.toList.take a)
 have hm : (splitL 10 (T.data.toList.take a)).dropLast.length ≤ (bodies ws 0).length := by
  have := congrArg List.length e
  rw [List.length_append, List.length_append, List.length_singleton] at this
  have hz1 : 0 < z.length := List.length_pos_iff.2 hz
  omega
 have hD : (splitL 10 (T.data.toList.take a)).dropLast = (bodies ws 0).take (splitL 10 (T.data.toList.take a)).dropLast.length := by
  have h3 : ((splitL 10 (T.data.toList.take a)).dropLast ++ z).take (splitL 10 (T.data.toList.take a)).dropLast.length = (splitL 10 (T.data.toList.take a)).dropLast := by rw [List.take_append_of_le_length (Nat.le_refl _), List.take_length]
  rw [← e, List.take_append_of_le_length hm] at h3
  exact h3.symm
 rw [hcnt] at hD hm
 have hr : recR (T.extract 0 a) = recL ((bodies ws 0).take (cnt (T.data.toList.take a))) [] 0 0 := by
  unfold recR
  rw [if_pos (by omega), hP, hD]
 rw [recL_all ws _ [] 0 0 (by omega), List.nil_append] at hr
 have ho : out = ws.take (cnt (T.data.toList.take a)) := by
  have := e1.symm.trans hr
  exact congrArg (fun x => x.1) this
 rw [hsz] at h1
 refine ⟨n, cnt (T.data.toList.take a), by rw [e1, ho], by rw [← bodies_length ws 0]; exact hm, h1, ?_, rfl⟩
 rw [← ho, h2, ext_ext T a n h1]
theorem jl_l1 (more : List Int) (hl : ∀ x ∈ more, (Lit.int .u8 x).wf = true) (ws : List ByteArray) (T : ByteArray) (hT : T.size ≤ 4000) (a n m : Nat) (ha : a < T.size) (hm : m ≤ ws.length) (hw : ws.length ≤ 1000) (hn : (recR (T.extract 0 a)).2.1 = (n : Int)) :
 ∀ (d i : Nat), i + d = m → Ev (fun k => laws_FnJournal.l1 k more ws T (a : Int) (ws.take m) (n : Int) (m : Int) (i : Int)) true := by
 intro d
 induction d with
 | zero =>
  intro i h
  have c1 : ¬ (i : Int) < (m : Int) := by omega
  obtain ⟨t, et, t1, t2⟩ := b10At_eq more hl 2 256 (by omega) (by omega)
  have hY : (strOfNums [t % 256]).size = 1 := by rw [str_size]; rfl
  generalize hYY : strOfNums [t % 256] = Y at hY
  have s1 : (T.extract 0 a).size = a := by rw [ByteArray.size_extract]; omega
  have s2 : (T.extract (a + 1) T.size).size = T.size - (a + 1) := by rw [ByteArray.size_extract]; omega
  have hb : ((T.extract 0 a ++ Y) ++ T.extract (a + 1) T.size).size = T.size := by rw [ByteArray.size_append, ByteArray.size_append]; omega
  have hmono : (n : Int) ≤ (recR ((T.extract 0 a ++ Y) ++ T.extract (a + 1) T.size)).2.1 := by
   rw [← hn, ByteArray.append_assoc]
   exact rec_mono _ _ (by rw [← ByteArray.append_assoc, hb]; exact hT)
  obtain ⟨out, q, e1, h1, h2, h3, h4⟩ := rec_any ((T.extract 0 a ++ Y) ++ T.extract (a + 1) T.size) (by rw [hb]; exact hT)
  have hR := RecoverI_ev ((T.extract 0 a ++ Y) ++ T.extract (a + 1) T.size)
  have hJ := JournalI_ev out (by omega) (by omega)
  rw [e1] at hR hmono
  rw [h2] at hJ
  have c2 : (0 : Int) ≤ (a : Int) := by omega
  have c3 : (a : Int) ≤ (T.size : Int) := by omega
  have c4 : (T.extract 0 a).size + Y.size ≤ 9223372036854775807 := by omega
  have c5 : (0 : Int) ≤ ((a + 1 : Nat) : Int) := by omega
  have c6 : ((a + 1 : Nat) : Int) ≤ (T.size : Int) := by omega
  have c7 : (T.extract 0 a ++ Y).size + (T.extract (a + 1) T.size).size ≤ 9223372036854775807 := by rw [ByteArray.size_append]; omega
  have c8 : (q : Int) ≥ (n : Int) := hmono
  have c9 : (q : Int) ≤ (((T.extract 0 a ++ Y) ++ T.extract (a + 1) T.size).size : Int) := by omega
  have c10 : (0 : Int) ≤ (q : Int) := by omega
  have ew : wrap64 ((a : Int) + 1) = ((a + 1 : Nat) : Int) := w64_succ (by omega)
  apply Ev.succ
  simp only [laws_FnJournal.l1, ew, Int.toNat_natCast]
  refine Ev.cond (fun h' => absurd h' c1) (fun _ => ?_)
  refine Ev.cond (fun _ => ?_) (fun h' => absurd c2 h')
  refine Ev.cond (fun _ => ?_) (fun h' => absurd c3 h')
  refine Ev.bind (Ev.const et) ?_
  refine Ev.bind (Ev.const rfl) ?_
  simp only [hYY]
  refine Ev.cond (fun _ => ?_) (fun h' => absurd c4 h')
  refine Ev.cond (fun _ => ?_) (fun h' => absurd c5 h')
  refine Ev.cond (fun _ => ?_) (fun h' => absurd c6 h')
  refine Ev.cond (fun _ => ?_) (fun h' => absurd c7 h')
  refine Ev.bind hR (Ev.bind hJ ?_)
  refine Ev.cond (fun _ => ?_) (fun h' => absurd (by trivial) h')
  refine Ev.cond (fun _ => ?_) (fun h' => absurd (by trivial) h')
  refine Ev.cond (fun _ => ?_) (fun h' => absurd c8 h')
  refine Ev.cond (fun _ => ?_) (fun h' => absurd c9 h')
  refine Ev.cond (fun _ => ?_) (fun h' => absurd c10 h')
  simp only [Int.toNat_natCast, beq_self_eq_true]
  exact Ev.now _
 | succ d ih =>
  intro i h
  have c1 : (i : Int) < (m : Int) := by omega
  have c2 : (0 : Int) ≤ (i : Int) := by omega
  have hl3 : (ws.take m).length = m := by rw [List.length_take]; omega
  have c3 : (i : Int) < ((ws.take m).length : Int) := by rw [hl3]; exact c1
  have c4 : (i : Int) < (ws.length : Int) := by omega
  have e : sn (ws.take m) i = sn ws i := by
   unfold sn
   rw [List.getD_eq_getElem?_getD, List.getElem?_take, if_pos (by omega), List.getD_eq_getElem?_getD]
  have h3 := ih (i + 1) (by omega)
  apply Ev.succ
  simp only [laws_FnJournal.l1, sr_nat, e, w64_succ (show i < 9223372036854775807 by omega)]
  refine Ev.cond (fun _ => ?_) (fun h' => absurd c1 h')
  refine Ev.cond (fun _ => ?_) (fun h' => absurd c2 h')
  refine Ev.cond (fun _ => ?_) (fun h' => absurd c3 h')
  refine Ev.cond (fun _ => ?_) (fun h' => absurd c4 h')
  exact Ev.cond (fun _ => h3) (fun h' => absurd (by trivial) h')
theorem jl_l0 (more : List Int) (ws out : List ByteArray) (T : ByteArray) (hT : T.size ≤ 4000) (a n m : Nat) (ha : a < T.size) (hn : n ≤ a) (ho : out.length = m) (hr : Ev (fun k => laws_FnJournal.j1 k more ws T (a : Int) out (n : Int) (m : Int) false) true) :
 ∀ (d i c : Nat), i + d = a → c + cnt ((T.data.toList.drop i).take d) = m → c ≤ i → Ev (fun k => laws_FnJournal.l0 k more ws T (a : Int) out (n : Int) true (T.extract 0 n) true (c : Int) (i : Int)) true := by
 intro d
 induction d with
 | zero =>
  intro i c h hc _
  rw [List.take_zero] at hc
  obtain rfl : c = m := hc
  have c1 : ¬ (i : Int) < (a : Int) := by omega
  have c2 : (out.length : Int) = (c : Int) := by omega
  have c3 : ¬ (n : Int) < 0 := by omega
  have c4 : ¬ (n : Int) > (a : Int) := by omega
  have c5 : (0 : Int) ≤ (n : Int) := by omega
  have c6 : (n : Int) ≤ (T.size : Int) := by omega
  apply Ev.succ
  simp only [laws_FnJournal.l0, Int.toNat_natCast, bne_self_eq_false]
  refine Ev.cond (fun h' => absurd h' c1) (fun _ => ?_)
  refine Ev.cond (fun _ => ?_) (fun h' => absurd (by trivial) h')
  refine Ev.cond (fun _ => ?_) (fun h' => absurd (by trivial) h')
  refine Ev.cond (fun _ => ?_) (fun h' => absurd c2 h')
  refine Ev.cond (fun h' => absurd h' c3) (fun _ => ?_)
  refine Ev.cond (fun h' => absurd h' c4) (fun _ => ?_)
  refine Ev.cond (fun _ => ?_) (fun h' => absurd c5 h')
  exact Ev.cond (fun _ => hr) (fun h' => absurd c6 h')
 | succ d ih =>
  intro i c h hc hci
  have hi : i < T.size := by omega
  have c1 : (i : Int) < (a : Int) := by omega
  have c2 : (0 : Int) ≤ (i : Int) := by omega
  have c3 : (i : Int) < (T.size : Int) := by omega
  rw [drop_data hi, List.take_succ_cons, cnt] at hc
  by_cases hb : T[i] = 10
  ·have c4 : bt T (i : Int) = 10 := by rw [bt_nat T i hi, hb]; rfl
   rw [if_pos hb] at hc
   have h3 := ih (i + 1) (c + 1) (by omega) (by omega) (by omega)
   apply Ev.succ
   simp only [laws_FnJournal.l0, w64_succ (show i < 9223372036854775807 by omega), w64_succ (show c < 9223372036854775807 by omega)]
   refine Ev.cond (fun _ => ?_) (fun h' => absurd c1 h')
   refine Ev.cond (fun _ => ?_) (fun h' => absurd c2 h')
   refine Ev.cond (fun _ => ?_) (fun h' => absurd c3 h')
   exact Ev.cond (fun _ => h3) (fun h' => absurd c4 h')
  ·have c4 : ¬ bt T (i : Int) = 10 := by
    rw [bt_nat T i hi]
    intro e
    exact hb (UInt8.toNat_inj.1 (by show T[i].toNat = 10; omega))
   rw [if_neg hb] at hc
   have h3 := ih (i + 1) c (by omega) hc (by omega)
   apply Ev.succ
   simp only [laws_FnJournal.l0, w64_succ (show i < 9223372036854775807 by omega)]
   refine Ev.cond (fun _ => ?_) (fun h' => absurd c1 h')
   refine Ev.cond (fun _ => ?_) (fun h' => absurd c2 h')
   refine Ev.cond (fun _ => ?_) (fun h' => absurd c3 h')
   exact Ev.cond (fun h' => absurd h' c4) (fun _ => h3)
theorem FnJournal : laws_FnJournal.Pure := by
 intro code more _ _ hl0 _ _ hl1
 refine Ev.rounds ?_
 unfold laws_FnJournal.f laws_b10Long.f
 by_cases hl : (code.length : Int) > 1048576
 ·refine Ev.bind (Ev.cond (fun _ => Ev.now true) (fun h' => absurd hl h')) ?_
  exact Ev.cond (fun _ => Ev.now _) (fun h' => absurd rfl h')
 refine Ev.bind (Ev.cond (fun h' => absurd h' hl) (fun _ => Ev.now _)) ?_
 refine Ev.cond (fun _ => Ev.now _) (fun _ => ?_)
 obtain ⟨ns, ls, ec, hc⟩ := cons_ev more hl1
 obtain ⟨ws, ew, hw6, hwo⟩ := lines_ev code hl0 ns ls hc
 have htot : ∀ (l : List ByteArray), (∀ x ∈ l, lineOk x) → totS l ≤ 300 * l.length := by
  intro l
  induction l with
  | nil => intro _; exact Nat.le_refl _
  | cons x r ih =>
   intro h
   have h1 := (h x List.mem_cons_self).1
   have h2 := ih (fun y hy => h y (List.mem_cons_of_mem _ hy))
   rw [totS, List.length_cons]; omega
 have ht := htot ws hwo
 have hsz := jn_size ws 0 (⟨#[]⟩ : ByteArray) (by omega)
 rw [show (⟨#[]⟩ : ByteArray).size = 0 from rfl] at hsz
 have hT : (jn ws 0 (⟨#[]⟩ : ByteArray)).size ≤ 4000 := by omega
 have hJ := JournalI_ev ws (by omega) (by omega)
 have hno : noNL ws = true := by
  unfold noNL
  rw [List.all_eq_true]
  intro x hx
  rw [idx_none 10 _ (hwo x hx).2]
  rfl
 have hjr : jR ws = (jn ws 0 (⟨#[]⟩ : ByteArray), true) := by unfold jR; rw [if_pos ⟨hno, hT⟩]
 rw [hjr] at hJ
 refine Ev.bind ec (Ev.bind ew (Ev.bind hJ ?_))
 refine Ev.cond (fun _ => ?_) (fun h' => absurd rfl h')
 by_cases hz : ((jn ws 0 (⟨#[]⟩ : ByteArray)).size : Int) = 0
 ·refine Ev.cond (fun _ => ?_) (fun h' => absurd hz h')
  have hnil : ws = [] := by
   cases ws with
   | nil => rfl
   | cons x r => rw [sz3] at hsz; omega
  subst hnil
  exact Ev.now _
 refine Ev.cond (fun h' => absurd h' hz) (fun _ => ?_)
 obtain ⟨t0, e0, p0, q0⟩ := b10At_eq more hl1 0 256 (by omega) (by omega)
 obtain ⟨t1, e1, p1, q1⟩ := b10At_eq more hl1 1 256 (by omega) (by omega)
 refine Ev.bind (Ev.const e0) (Ev.bind (Ev.const e1) ?_)
 have ha : ∃ a : Nat, Int.tmod (wrap64 ((wrap64 (t0 * 256)) + t1)) ((jn ws 0 (⟨#[]⟩ : ByteArray)).size : Int) = (a : Int) ∧ a < (jn ws 0 (⟨#[]⟩ : ByteArray)).size := by
  rw [w64 (show -9223372036854775808 ≤ t0 * 256 by omega) (by omega), w64 (show -9223372036854775808 ≤ t0 * 256 + t1 by omega) (by omega)]
  obtain ⟨a, ea⟩ := Int.eq_ofNat_of_zero_le (Int.tmod_nonneg ((jn ws 0 (⟨#[]⟩ : ByteArray)).size : Int) (show 0 ≤ t0 * 256 + t1 by omega))
  have hlt := Int.tmod_lt_of_pos (t0 * 256 + t1) (show 0 < ((jn ws 0 (⟨#[]⟩ : ByteArray)).size : Int) by omega)
  exact ⟨a, ea, by rw [ea] at hlt; omega⟩
 obtain ⟨a, ea, ha⟩ := ha
 have hea := Aside0.mk ea
 clear ea
 obtain ⟨n, m, hr, hm, hn, hjm, hcnt⟩ := rec_cut ws (fun x hx => (hwo x hx).2) hT a (by omega)
 have hR := RecoverI_ev ((jn ws 0 (⟨#[]⟩ : ByteArray)).extract 0 a)
 rw [hr] at hR
 have hJ2 := JournalI_ev (ws.take m) (by rw [List.length_take]; omega) (by
  have h1 := htot (ws.take m) (fun x hx => hwo x (List.mem_of_mem_take hx))
  rw [List.length_take] at h1
  omega)
 rw [hjm] at hJ2
 simp only [hea.out, Int.toNat_natCast]
 refine Ev.cond (fun _ => ?_) (fun h' => absurd (by omega) h')
 refine Ev.cond (fun _ => ?_) (fun h' => absurd (by omega) h')
 refine Ev.bind hR (Ev.bind hJ2 ?_)
 have hl1' := jl_l1 more hl1 ws (jn ws 0 (⟨#[]⟩ : ByteArray)) hT a n m ha hm (by omega) (by rw [hr]) m 0 (by omega)
 refine jl_l0 more ws (ws.take m) (jn ws 0 (⟨#[]⟩ : ByteArray)) hT a n m ha hn (by rw [List.length_take]; omega) ?_ a 0 0 (by omega) (by rw [List.drop_zero, Nat.zero_add]; exact hcnt.symm) (Nat.le_refl _)
 apply Ev.succ
 simp only [laws_FnJournal.j1]
 exact Ev.cond (fun h' => absurd h' (by decide)) (fun _ => hl1')

end Go.Proofs.YtohdepanfnaddaaDoor.Pure
