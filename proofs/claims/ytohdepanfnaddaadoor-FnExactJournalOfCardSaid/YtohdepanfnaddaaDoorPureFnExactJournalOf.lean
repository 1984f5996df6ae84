/- For all lines the program's JournalOf answers what the reference's does. -/
import Derived.Test.YtohdepanfnaddaaDoorQFnExactJournalOfx3
import Derived.Test.YtohdepanfnaddaaDoorBase
namespace Go.Proofs.YtohdepanfnaddaaDoor.Pure
open Go.RowKit Go.Proofs.YtohdepanfnaddaaDoor.QFnExactJournalOf Go.Proofs.YtohdepanfnaddaaDoor.Base Go.Proofs.YtohdepanfnaddaaDoorW.PrintWords Go.Proofs.YtohdepanfnaddaaDoorW.PrintLast Go.Proofs.YtohdepanfnaddaaDoorW.PrintMore
set_option linter.unusedVariables false
set_option linter.unusedSimpArgs false

/-! strL -/
/-- A text of a list, by its place. -/
def sn (xs : List ByteArray) (n : Nat) : ByteArray := xs.getD n ByteArray.empty
theorem sr_nat (xs : List ByteArray) (n : Nat) : rdOf ByteArray.empty xs (n : Int) = sn xs n := by unfold rdOf sn; rw [Int.toNat_natCast]
theorem sn_get {xs : List ByteArray} {n : Nat} (h : n < xs.length) : sn xs n = xs[n] := by
  unfold sn
  rw [List.getD_eq_getElem?_getD, List.getElem?_eq_getElem h]; rfl
theorem sn_mem {xs : List ByteArray} {n : Nat} (h : n < xs.length) : sn xs n ∈ xs := by rw [sn_get h]; exact List.getElem_mem h
theorem drop_sn {xs : List ByteArray} {n : Nat} (h : n < xs.length) : xs.drop n = sn xs n :: xs.drop (n + 1) := by
  rw [sn_get h, List.drop_eq_getElem_cons h]
theorem take_sn {xs : List ByteArray} {n : Nat} (h : n < xs.length) : xs.take (n + 1) = xs.take n ++ [sn xs n] := by
  rw [sn_get h, List.take_succ_eq_append_getElem h]
/-- The sizes of texts together. -/
def totS : List ByteArray → Nat
  | [] => 0
  | x :: r => x.size + totS r
theorem totS_mem {xs : List ByteArray} {x : ByteArray} (h : x ∈ xs) : x.size ≤ totS xs := by
  induction xs with
  | nil => exact absurd h (by simp)
  | cons y xs ih =>
    unfold totS
    rcases List.mem_cons.1 h with rfl | h
    · omega
    · have := ih h; omega
theorem sn_size (xs : List ByteArray) (n : Nat) : (sn xs n).size ≤ totS xs := by
  by_cases h : n < xs.length
  · exact totS_mem (sn_mem h)
  · have e : sn xs n = ByteArray.empty := by
      unfold sn
      rw [List.getD_eq_getElem?_getD, List.getElem?_eq_none (by omega)]; rfl
    rw [e]; exact Nat.zero_le _
theorem bytes_ext {a b : ByteArray} (h : a.toList = b.toList) : a = b := by
  rw [Lib.toList_data, Lib.toList_data] at h
  exact ByteArray.ext (Array.ext' h)
instance decMemS : (x : ByteArray) → (xs : List ByteArray) → Decidable (x ∈ xs)
  | x, [] => isFalse (by simp)
  | x, y :: r => if h : x = y then isTrue (by rw [h]; exact List.mem_cons_self) else match decMemS x r with
    | isTrue h2 => isTrue (List.mem_cons_of_mem _ h2)
    | isFalse h2 => isFalse (fun h3 => by rcases List.mem_cons.1 h3 with h3 | h3; exact h h3; exact h2 h3)

/-! byt -/
/-- A text of bytes. -/
def ofL (l : List UInt8) : ByteArray := ⟨l.toArray⟩
theorem ofL_data (l : List UInt8) : (ofL l).data.toList = l := rfl
theorem ofL_list (l : List UInt8) : (ofL l).toList = l := by rw [Lib.toList_data, ofL_data]
theorem ofL_size (l : List UInt8) : (ofL l).size = l.length := by rw [← size_data, ofL_data]
theorem ofL_of (s : ByteArray) : ofL s.data.toList = s := ByteArray.ext (Array.ext' rfl)
theorem ofL_inj {a b : List UInt8} (h : ofL a = ofL b) : a = b := by rw [← ofL_data a, h, ofL_data]
theorem ext_data (s : ByteArray) (a b : Nat) : (s.extract a b).data.toList = (s.data.toList.drop a).take (b - a) := by
  rw [ByteArray.data_extract, Array.toList_extract]
theorem ext_ofL (s : ByteArray) (a b : Nat) : s.extract a b = ofL ((s.data.toList.drop a).take (b - a)) := by
  rw [← ext_data, ofL_of]
theorem ofL_ext (l : List UInt8) (a b : Nat) : (ofL l).extract a b = ofL ((l.drop a).take (b - a)) := by rw [ext_ofL, ofL_data]
theorem ofL_app (a b : List UInt8) : ofL a ++ ofL b = ofL (a ++ b) := by
  apply ByteArray.ext
  rw [ByteArray.data_append]
  apply Array.ext'
  rw [Array.toList_append]; rfl
theorem ofL_bt {l : List UInt8} {i : Nat} (h : i < l.length) : bt (ofL l) (i : Int) = ((l[i]).toNat : Int) := by
  rw [bt_nat _ _ (by rw [ofL_size]; exact h)]; rfl

/-! ckL -/
/-- The check number of bytes. -/
def ckL (c : Int) (l : List UInt8) : Int := l.foldl (fun c b => (3001 * c + (b.toNat : Int) + 5) % 65003) c
theorem ckL_cons (c : Int) (b : UInt8) (l : List UInt8) : ckL c (b :: l) = ckL ((3001 * c + (b.toNat : Int) + 5) % 65003) l := rfl
theorem ckL_in : ∀ (l : List UInt8) (c : Int), 0 ≤ c ∧ c ≤ 65002 → 0 ≤ ckL c l ∧ ckL c l ≤ 65002
  | [], c, h => h
  | b :: l, c, h => by
    rw [ckL_cons]
    exact ckL_in l _ (by omega)
theorem ck_step {c : Int} (h : 0 ≤ c ∧ c ≤ 65002) (b : UInt8) : Int.tmod (wrap64 ((wrap64 ((wrap64 (3001 * c)) + (wrap64 ((b.toNat : Nat) : Int)))) + 5)) 65003 = (3001 * c + (b.toNat : Int) + 5) % 65003 := by
  have hb : b.toNat < 256 := b.toNat_lt
  rw [w64 (show -9223372036854775808 ≤ 3001 * c by omega) (by omega), w64 (show -9223372036854775808 ≤ ((b.toNat : Nat) : Int) by omega) (by omega), w64 (show -9223372036854775808 ≤ 3001 * c + ((b.toNat : Nat) : Int) by omega) (by omega), w64 (by omega) (by omega)]
  exact Int.tmod_eq_emod_of_nonneg (by omega)
theorem l01Check_l0 (s : ByteArray) (hs : s.size ≤ 1099511627776) : ∀ d i c, i + d = s.size → 0 ≤ c ∧ c ≤ 65002 → Ev (fun k => spec_l01Check.l0 k c s (i : Int)) (ckL c (s.data.toList.drop i)) := by
  intro d
  induction d with
  | zero =>
    intro i c h hc
    have c1 : ¬ (i : Int) < (s.size : Int) := by omega
    rw [List.drop_eq_nil_of_le (by rw [size_data]; omega)]
    apply Ev.succ
    simp only [spec_l01Check.l0]
    exact Ev.cond (fun h' => absurd h' c1) (fun _ => Ev.now _)
  | succ d ih =>
    intro i c h hc
    have hl : i < s.size := by omega
    have c1 : (i : Int) < (s.size : Int) := by omega
    have c2 : (0 : Int) ≤ (i : Int) := by omega
    have h3 := ih (i + 1) ((3001 * c + (s[i].toNat : Int) + 5) % 65003) (by omega) (by omega)
    rw [drop_data hl, ckL_cons]
    apply Ev.succ
    simp only [spec_l01Check.l0, w64_succ (show i < 9223372036854775807 by omega), bt_nat s i hl, ck_step hc]
    refine Ev.cond (fun _ => ?_) (fun h' => absurd c1 h')
    exact Ev.cond (fun _ => h3) (fun h' => absurd c2 h')
theorem l01Check_ev (s : ByteArray) (hs : s.size ≤ 1099511627776) (c : Int) (hc : 0 ≤ c ∧ c ≤ 65002) : Ev (fun k => spec_l01Check.f k c s) (ckL c s.data.toList) := l01Check_l0 s hs s.size 0 c (by omega) hc
theorem CheckOf_l0 (s : ByteArray) (hs : s.size ≤ 1099511627776) : ∀ d i c, i + d = s.size → 0 ≤ c ∧ c ≤ 65002 → Ev (fun k => impl_CheckOf.l0 k c s (s.size : Int) (i : Int)) (ckL c (s.data.toList.drop i), true) := by
  intro d
  induction d with
  | zero =>
    intro i c h hc
    have c1 : ¬ (i : Int) < (s.size : Int) := by omega
    rw [List.drop_eq_nil_of_le (by rw [size_data]; omega)]
    apply Ev.succ
    simp only [impl_CheckOf.l0]
    exact Ev.cond (fun h' => absurd h' c1) (fun _ => Ev.now _)
  | succ d ih =>
    intro i c h hc
    have hl : i < s.size := by omega
    have c1 : (i : Int) < (s.size : Int) := by omega
    have c2 : (0 : Int) ≤ (i : Int) := by omega
    have h3 := ih (i + 1) ((3001 * c + (s[i].toNat : Int) + 5) % 65003) (by omega) (by omega)
    rw [drop_data hl, ckL_cons]
    apply Ev.succ
    simp only [impl_CheckOf.l0, w64_succ (show i < 9223372036854775807 by omega), bt_nat s i hl, ck_step hc]
    refine Ev.cond (fun _ => ?_) (fun h' => absurd c1 h')
    refine Ev.cond (fun _ => ?_) (fun h' => absurd c2 h')
    exact Ev.cond (fun _ => h3) (fun h' => absurd c1 h')

/-! decD -/
/-- The digits of a number, the last one first; none of 0. -/
def revD (u : Nat) : List Int := if h : u = 0 then [] else (48 + ((u % 10 : Nat) : Int)) :: revD (u / 10)
termination_by u
decreasing_by omega
theorem revD_zero : revD 0 = [] := by unfold revD; rfl
theorem revD_pos {u : Nat} (h : u ≠ 0) : revD u = (48 + ((u % 10 : Nat) : Int)) :: revD (u / 10) := by
  rw [revD, dif_neg h]
theorem revD_dec (u : Nat) (h : u ≠ 0) : Lib.decDigits u = (revD u).reverse.map (fun n => UInt8.ofNat n.toNat) := by
  induction u using Nat.strongRecOn with
  | _ u ih =>
    rw [Lib.decDigits]
    by_cases h10 : u < 10
    · rw [dif_pos h10, revD_pos h, Nat.mod_eq_of_lt h10, Nat.div_eq_of_lt h10, revD_zero]
      show _ = [UInt8.ofNat (48 + (u : Int)).toNat]
      congr 2
    · rw [dif_neg h10, revD_pos h, ih (u / 10) (by omega) (by omega), List.reverse_cons, List.map_append]
      congr 2
theorem revD_range (u : Nat) : ∀ z ∈ revD u, 0 ≤ z ∧ z ≤ 255 := by
  induction u using Nat.strongRecOn with
  | _ u ih =>
    by_cases h : u = 0
    · subst h; rw [revD_zero]; intro z hz; exact absurd hz (by simp)
    · rw [revD_pos h]
      intro z hz
      rcases List.mem_cons.1 hz with rfl | hz
      · omega
      · exact ih (u / 10) (by omega) z hz
theorem revD_length (u : Nat) : (revD u).length ≤ u := by
  induction u using Nat.strongRecOn with
  | _ u ih =>
    by_cases h : u = 0
    · subst h; rw [revD_zero]; exact Nat.le_refl _
    · rw [revD_pos h, List.length_cons]
      have := ih (u / 10) (by omega)
      omega
theorem revD_len20 : ∀ (m u : Nat), u < 10 ^ m → (revD u).length ≤ m
  | 0, u, h => by
    obtain rfl : u = 0 := by simpa using h
    rw [revD_zero]; exact Nat.le_refl _
  | m + 1, u, h => by
    by_cases h0 : u = 0
    · subst h0; rw [revD_zero]; exact Nat.zero_le _
    · rw [revD_pos h0, List.length_cons]
      have := revD_len20 m (u / 10) (by rw [Nat.pow_succ] at h; omega)
      omega

/-! jrn -/
theorem decDigits_len (u : Nat) (h : u < 10 ^ 20) : 1 ≤ (Lib.decDigits u).length ∧ (Lib.decDigits u).length ≤ 20 := by
  by_cases h0 : u = 0
  · subst h0
    rw [Lib.decDigits]
    exact ⟨Nat.le_refl _, by decide⟩
  · have e := revD_dec u h0
    have h1 := revD_len20 20 u h
    rw [e, List.length_map, List.length_reverse]
    refine ⟨?_, h1⟩
    rw [revD_pos h0, List.length_cons]; omega
theorem itoa_ck (c : Int) (h : 0 ≤ c ∧ c ≤ 65002) : 1 ≤ (Lib.itoa c).length ∧ (Lib.itoa c).length ≤ 20 := by
  unfold Lib.itoa
  rw [if_neg (by omega)]
  exact decDigits_len _ (Nat.lt_of_le_of_lt (show c.toNat ≤ 65002 by omega) (by decide))
/-- A line of a journal. -/
def piece (c : Int) (x : ByteArray) : ByteArray := ((ofL (Lib.itoa (ckL c x.data.toList)) ++ (⟨#[32]⟩ : ByteArray)) ++ x) ++ (⟨#[10]⟩ : ByteArray)
theorem piece_size (c : Int) (hc : 0 ≤ c ∧ c ≤ 65002) (x : ByteArray) : x.size + 3 ≤ (piece c x).size ∧ (piece c x).size ≤ x.size + 22 := by
  have h := itoa_ck (ckL c x.data.toList) (ckL_in _ c hc)
  unfold piece
  rw [ByteArray.size_append, ByteArray.size_append, ByteArray.size_append, ofL_size, show (⟨#[32]⟩ : ByteArray).size = 1 from rfl, show (⟨#[10]⟩ : ByteArray).size = 1 from rfl]
  omega
/-- The journal of lines behind a text. -/
def jn : List ByteArray → Int → ByteArray → ByteArray
  | [], _, a => a
  | x :: r, c, a => jn r (ckL c x.data.toList) (a ++ piece c x)
/-- How many bytes lines have at least in a journal. -/
def sz3 : List ByteArray → Nat
  | [] => 0
  | x :: r => (x.size + 3) + sz3 r
theorem jn_size : ∀ (l : List ByteArray) (c : Int) (a : ByteArray), 0 ≤ c ∧ c ≤ 65002 → a.size + sz3 l ≤ (jn l c a).size ∧ (jn l c a).size ≤ a.size + totS l + 22 * l.length
  | [], c, a, _ => ⟨Nat.le_refl _, Nat.le_refl _⟩
  | x :: r, c, a, hc => by
    have ih := jn_size r (ckL c x.data.toList) (a ++ piece c x) (ckL_in _ c hc)
    have hp := piece_size c hc x
    rw [ByteArray.size_append] at ih
    unfold jn sz3 totS
    rw [List.length_cons]
    omega
/-- No line has a newline. -/
def noNL (l : List ByteArray) : Bool := l.all fun x => decide (Lib.indexByte x.data.toList 10 < 0)
theorem noNL_cons (x : ByteArray) (l : List ByteArray) : noNL (x :: l) = (decide (Lib.indexByte x.data.toList 10 < 0) && noNL l) := rfl
/-- The journal, if there is one. -/
def jR (xs : List ByteArray) : ByteArray × Bool := if noNL xs = true ∧ (jn xs 0 (⟨#[]⟩ : ByteArray)).size ≤ 4000 then (jn xs 0 (⟨#[]⟩ : ByteArray), true) else ((⟨#[]⟩ : ByteArray), false)

/-! decSp -/
def decS2 (n : Int) : ByteArray := ofL (Lib.itoa n)
theorem l01Dec_l1 (ds : List Int) (hd : ds.length ≤ 1000) : ∀ (m : Nat) (out : List Int), m ≤ ds.length → out.length + m = ds.length → Ev (fun k => spec_l01Dec.l1 k ds out ((m : Int) - 1)) (strOfNums (out ++ (ds.take m).reverse)) := by
  intro m
  induction m with
  | zero =>
    intro out hm ho
    have c1 : ¬ (((0 : Nat) : Int) - 1) ≥ 0 := by omega
    rw [List.take_zero, List.reverse_nil, List.append_nil]
    apply Ev.succ
    simp only [spec_l01Dec.l1]
    exact Ev.cond (fun h' => absurd h' c1) (fun _ => Ev.now _)
  | succ m ih =>
    intro out hm ho
    have e : ((m + 1 : Nat) : Int) - 1 = (m : Int) := by omega
    rw [e]
    have c1 : (m : Int) ≥ 0 := by omega
    have c2 : (m : Int) < (ds.length : Int) := by omega
    have c3 : out.length < 140737488355328 := by omega
    have h3 := ih (out ++ [rd ds (m : Int)]) (by omega) (by rw [List.length_append, List.length_singleton]; omega)
    rw [take_rd (show m < ds.length by omega), List.reverse_append]
    rw [List.append_assoc] at h3
    apply Ev.succ
    simp only [spec_l01Dec.l1, w64 (show -9223372036854775808 ≤ (m : Int) - 1 by omega) (show (m : Int) - 1 ≤ 9223372036854775807 by omega)]
    refine Ev.cond (fun _ => ?_) (fun h' => absurd c1 h')
    refine Ev.cond (fun _ => ?_) (fun h' => absurd c1 h')
    refine Ev.cond (fun _ => ?_) (fun h' => absurd c2 h')
    exact Ev.cond (fun _ => h3) (fun h' => absurd c3 h')
theorem l01Dec_j1 (ds : List Int) (hd : ds.length ≤ 1000) : Ev (fun k => spec_l01Dec.j1 k ds) (strOfNums ds.reverse) := by
  have h := l01Dec_l1 ds hd ds.length [] (Nat.le_refl _) (by simp)
  rw [List.take_length, List.nil_append] at h
  apply Ev.succ
  simp only [spec_l01Dec.j1, w64 (show -9223372036854775808 ≤ (ds.length : Int) - 1 by omega) (show (ds.length : Int) - 1 ≤ 9223372036854775807 by omega)]
  exact h
theorem l01Dec_l0 (n : Int) (sg : Int) (hsg : sg = 1 ∨ sg = -1) : ∀ (u : Nat) (out : List Int), out.length + (revD u).length ≤ 500 → u ≤ 9223372036854775808 →
    Ev (fun k => spec_l01Dec.l0 k n out (sg * (u : Int))) (strOfNums ((out ++ revD u) ++ (if n < 0 then [45] else [])).reverse) := by
  intro u
  induction u using Nat.strongRecOn with
  | _ u ih =>
    intro out ho hu
    by_cases h0 : u = 0
    · subst h0
      have c1 : sg * ((0 : Nat) : Int) = 0 := by simp
      rw [revD_zero] at ho ⊢
      rw [List.append_nil]
      simp only [List.length_nil, Nat.add_zero] at ho
      have c2 : out.length < 140737488355328 := by omega
      apply Ev.succ
      simp only [spec_l01Dec.l0, c1]
      refine Ev.cond (fun _ => ?_) (fun h' => absurd (by trivial) h')
      by_cases hn : n < 0
      · rw [if_pos hn]
        refine Ev.cond (fun _ => ?_) (fun h' => absurd hn h')
        exact Ev.cond (fun _ => l01Dec_j1 _ (by rw [List.length_append, List.length_singleton]; omega)) (fun h' => absurd c2 h')
      · rw [if_neg hn, List.append_nil]
        exact Ev.cond (fun h' => absurd h' hn) (fun _ => l01Dec_j1 _ (by omega))
    · rw [revD_pos h0, List.length_cons] at ho
      have c2 : out.length < 140737488355328 := by omega
      have h3 := ih (u / 10) (by omega) (out ++ [48 + ((u % 10 : Nat) : Int)]) (by rw [List.length_append, List.length_singleton]; omega) (by omega)
      rw [show (out ++ [48 + ((u % 10 : Nat) : Int)]) ++ revD (u / 10) = out ++ revD u by rw [revD_pos h0, List.append_assoc, List.singleton_append]] at h3
      have et : Int.tmod (sg * (u : Int)) 10 = sg * ((u % 10 : Nat) : Int) := by
        rcases hsg with rfl | rfl
        · rw [Int.one_mul, Int.one_mul]; rfl
        · rw [Int.neg_mul, Int.one_mul, Int.neg_tmod, Int.neg_mul, Int.one_mul]; rfl
      have ed : Int.tdiv (sg * (u : Int)) 10 = sg * ((u / 10 : Nat) : Int) := by
        rcases hsg with rfl | rfl
        · rw [Int.one_mul, Int.one_mul]; rfl
        · rw [Int.neg_mul, Int.one_mul, Int.neg_tdiv, Int.neg_mul, Int.one_mul]; rfl
      have hne : ¬ sg * (u : Int) = 0 := by rcases hsg with rfl | rfl <;> omega
      have ew : wrap64 (sg * ((u / 10 : Nat) : Int)) = sg * ((u / 10 : Nat) : Int) := by rcases hsg with rfl | rfl <;> exact w64 (by omega) (by omega)
      have hm : u % 10 < 10 := Nat.mod_lt _ (by decide)
      apply Ev.succ
      simp only [spec_l01Dec.l0, et, ed, ew]
      refine Ev.cond (fun h' => absurd h' hne) (fun _ => ?_)
      by_cases hneg : sg * ((u % 10 : Nat) : Int) < 0
      · refine Ev.cond (fun _ => ?_) (fun h' => absurd hneg h')
        have es : sg = -1 := by rcases hsg with rfl | rfl; exact absurd hneg (by omega); rfl
        subst es
        rw [w64 (show -9223372036854775808 ≤ -(-1 * ((u % 10 : Nat) : Int)) by omega) (by omega), w64 (show -9223372036854775808 ≤ 48 + -(-1 * ((u % 10 : Nat) : Int)) by omega) (by omega), show (48 + -(-1 * ((u % 10 : Nat) : Int))) % 256 = 48 + ((u % 10 : Nat) : Int) by omega]
        exact Ev.cond (fun _ => h3) (fun h' => absurd c2 h')
      · refine Ev.cond (fun h' => absurd h' hneg) (fun _ => ?_)
        have es : sg * ((u % 10 : Nat) : Int) = ((u % 10 : Nat) : Int) := by rcases hsg with rfl | rfl <;> omega
        rw [es, w64 (show -9223372036854775808 ≤ 48 + ((u % 10 : Nat) : Int) by omega) (by omega), show (48 + ((u % 10 : Nat) : Int)) % 256 = 48 + ((u % 10 : Nat) : Int) by omega]
        exact Ev.cond (fun _ => h3) (fun h' => absurd c2 h')
theorem l01Dec_ev (n : Int) (h1 : -9223372036854775808 ≤ n) (h2 : n ≤ 9223372036854775807) : Ev (fun k => spec_l01Dec.f k n) (ofL (Lib.itoa n)) := by
  unfold spec_l01Dec.f
  by_cases h0 : n = 0
  · subst h0
    refine Ev.cond (fun _ => ?_) (fun h' => absurd rfl h')
    have e : ofL (Lib.itoa 0) = (⟨#[48]⟩ : ByteArray) := by
      unfold Lib.itoa
      rw [if_neg (by decide), Lib.decDigits]
      rfl
    rw [e]
    exact Ev.now _
  · refine Ev.cond (fun h' => absurd h' h0) (fun _ => ?_)
    obtain ⟨sg, u, hsg, hu, hn⟩ : ∃ (sg : Int) (u : Nat), (sg = 1 ∨ sg = -1) ∧ n = sg * (u : Int) ∧ (sg = -1 ↔ n < 0) := by
      by_cases hneg : n < 0
      · exact ⟨-1, n.natAbs, .inr rfl, by omega, by omega⟩
      · exact ⟨1, n.toNat, .inl rfl, by omega, by omega⟩
    have hub : u ≤ 9223372036854775808 := by rcases hsg with rfl | rfl <;> omega
    have hu0 : u ≠ 0 := by rintro rfl; rw [hu] at h0; simp at h0
    have hl := revD_len20 20 u (Nat.lt_of_le_of_lt hub (by decide))
    have h3 := l01Dec_l0 n sg hsg u [] (by rw [List.length_nil]; omega) hub
    rw [← hu, List.nil_append] at h3
    have e : strOfNums ((revD u) ++ (if n < 0 then [45] else [])).reverse = ofL (Lib.itoa n) := by
      apply ByteArray.ext
      apply Array.ext'
      show List.map (fun n : Int => UInt8.ofNat n.toNat) _ = Lib.itoa n
      unfold Lib.itoa
      by_cases hneg : n < 0
      · rw [if_pos hneg, if_pos hneg, List.reverse_append, List.map_append, show n.natAbs = u by rcases hsg with rfl | rfl <;> omega, revD_dec u hu0]; rfl
      · rw [if_neg hneg, if_neg hneg, List.append_nil, show n.toNat = u by rcases hsg with rfl | rfl <;> omega, revD_dec u hu0]
    rw [e] at h3
    exact h3

/-! split -/
def attach (p : List UInt8) : List (List UInt8) → List (List UInt8)
  | [] => [p]
  | h :: r => (p ++ h) :: r
/-- The parts between marks. -/
def splitL (c : UInt8) : List UInt8 → List (List UInt8)
  | [] => [[]]
  | b :: l => if b = c then [] :: splitL c l else attach [b] (splitL c l)
theorem attach_attach (p q : List UInt8) (s : List (List UInt8)) : attach p (attach q s) = attach (p ++ q) s := by
  cases s with
  | nil => rfl
  | cons h r => show (p ++ (q ++ h)) :: r = _; rw [← List.append_assoc]; rfl
theorem splitL_ne (c : UInt8) (l : List UInt8) : ∃ h r, splitL c l = h :: r := by
  cases l with
  | nil => exact ⟨[], [], rfl⟩
  | cons b l =>
    unfold splitL
    by_cases h : b = c
    · rw [if_pos h]; exact ⟨_, _, rfl⟩
    · rw [if_neg h]
      cases splitL c l with
      | nil => exact ⟨_, _, rfl⟩
      | cons x y => exact ⟨_, _, rfl⟩
theorem attach_nil (c : UInt8) (l : List UInt8) : attach [] (splitL c l) = splitL c l := by
  obtain ⟨h, r, e⟩ := splitL_ne c l
  rw [e]; rfl
theorem splitL_length (c : UInt8) : ∀ l, (splitL c l).length ≤ l.length + 1
  | [] => Nat.le_refl _
  | b :: l => by
    have ih := splitL_length c l
    unfold splitL
    by_cases h : b = c
    · rw [if_pos h, List.length_cons, List.length_cons]; omega
    · rw [if_neg h]
      obtain ⟨x, y, e⟩ := splitL_ne c l
      rw [e] at ih ⊢
      show ((_ : List UInt8) :: y).length ≤ _
      rw [List.length_cons] at ih ⊢
      rw [List.length_cons]; omega
theorem splitL_pos (c : UInt8) (l : List UInt8) : 0 < (splitL c l).length := by
  obtain ⟨h, r, e⟩ := splitL_ne c l
  rw [e, List.length_cons]; omega
theorem idx_split (c : UInt8) : ∀ l : List UInt8, (Lib.indexByte l c = -1 ∧ splitL c l = [l]) ∨ ∃ n : Nat, Lib.indexByte l c = (n : Int) ∧ n < l.length ∧ splitL c l = l.take n :: splitL c (l.drop (n + 1))
  | [] => .inl ⟨rfl, rfl⟩
  | b :: l => by
    by_cases h : b = c
    · refine .inr ⟨0, ?_, by rw [List.length_cons]; omega, ?_⟩
      · simp [Lib.indexByte, h]
      · show splitL c (b :: l) = [] :: splitL c l
        rw [splitL, if_pos h]
    · have hb : (b == c) = false := beq_eq_false_iff_ne.2 h
      rcases idx_split c l with ⟨e1, e2⟩ | ⟨n, e1, e2, e3⟩
      · refine .inl ⟨?_, ?_⟩
        · simp [Lib.indexByte, hb, e1]
        · unfold splitL
          rw [if_neg h, e2]; rfl
      · refine .inr ⟨n + 1, ?_, by rw [List.length_cons]; omega, ?_⟩
        · have hn : ((n : Int) == -1) = false := beq_eq_false_iff_ne.2 (by omega)
          simp [Lib.indexByte, hb, e1, hn]
        · show splitL c (b :: l) = (b :: l.take n) :: splitL c (l.drop (n + 1))
          rw [splitL, if_neg h, e3]; rfl
theorem idx_cases (c : UInt8) (l : List UInt8) : Lib.indexByte l c = -1 ∨ ∃ n : Nat, Lib.indexByte l c = (n : Int) ∧ n < l.length := by
  rcases idx_split c l with ⟨h, _⟩ | ⟨n, h, h2, _⟩
  · exact .inl h
  · exact .inr ⟨n, h, h2⟩

/-! jrnS -/
theorem l11Journal_l0 (xs : List ByteArray) (hn : xs.length ≤ 1099511627776) (hs : totS xs ≤ 1099511627776) (B : Nat) (hB : B ≤ 4611686018427387904) : ∀ (d i : Nat) (a : ByteArray) (c : Int), i + d = xs.length → (a.size + totS (xs.drop i)) + 22 * d ≤ B → 0 ≤ c ∧ c ≤ 65002 →
    Ev (fun k => spec_l11Journal.l0 k xs a c (i : Int)) (jn (xs.drop i) c a) := by
  intro d
  induction d with
  | zero =>
    intro i a c h ha hc
    have c1 : ¬ (i : Int) < (xs.length : Int) := by omega
    rw [List.drop_eq_nil_of_le (by omega)]
    apply Ev.succ
    simp only [spec_l11Journal.l0]
    exact Ev.cond (fun h' => absurd h' c1) (fun _ => Ev.now _)
  | succ d ih =>
    intro i a c h ha hc
    have hl : i < xs.length := by omega
    have c1 : (i : Int) < (xs.length : Int) := by omega
    have c2 : (0 : Int) ≤ (i : Int) := by omega
    rw [drop_sn hl] at ha ⊢
    have hz := Nat.le_trans (sn_size xs i) hs
    obtain ⟨x, hx⟩ : ∃ x, sn xs i = x := ⟨_, rfl⟩
    rw [hx] at hz ha ⊢
    unfold totS at ha
    have hck := ckL_in x.data.toList c hc
    have hk := l01Check_ev x hz c hc
    have hd := l01Dec_ev (ckL c x.data.toList) (by omega) (by omega)
    have hi := itoa_ck _ hck
    have hp := piece_size c hc x
    have hd1 : (⟨#[32]⟩ : ByteArray).size = 1 := rfl
    have c3 : (ofL (Lib.itoa (ckL c x.data.toList))).size + 1 ≤ 9223372036854775807 := by rw [ofL_size]; omega
    have c4 : (ofL (Lib.itoa (ckL c x.data.toList)) ++ (⟨#[32]⟩ : ByteArray)).size + x.size ≤ 9223372036854775807 := by rw [ByteArray.size_append, ofL_size, hd1]; omega
    have c5 : ((ofL (Lib.itoa (ckL c x.data.toList)) ++ (⟨#[32]⟩ : ByteArray)) ++ x).size + 1 ≤ 9223372036854775807 := by rw [ByteArray.size_append, ByteArray.size_append, ofL_size, hd1]; omega
    have c6 : a.size + (piece c x).size ≤ 9223372036854775807 := by omega
    have h3 := ih (i + 1) (a ++ piece c x) _ (by omega) (by rw [ByteArray.size_append]; omega) hck
    apply Ev.succ
    simp only [spec_l11Journal.l0, sr_nat, hx, w64_succ (show i < 9223372036854775807 by omega)]
    refine Ev.cond (fun _ => ?_) (fun h' => absurd c1 h')
    refine Ev.cond (fun _ => ?_) (fun h' => absurd c2 h')
    refine Ev.bind hk ?_
    refine Ev.bind hd ?_
    refine Ev.cond (fun _ => ?_) (fun h' => absurd c3 h')
    refine Ev.cond (fun _ => ?_) (fun h' => absurd c4 h')
    refine Ev.cond (fun _ => ?_) (fun h' => absurd c5 h')
    exact Ev.cond (fun _ => h3) (fun h' => absurd c6 h')
theorem l11Journal_ev (xs : List ByteArray) (hn : xs.length ≤ 1048576) (hs : totS xs ≤ 1099511627776) : Ev (fun k => spec_l11Journal.f k xs) (jn xs 0 (⟨#[]⟩ : ByteArray)) := by
  have e0 : (⟨#[]⟩ : ByteArray).size = 0 := rfl
  have h := l11Journal_l0 xs (by omega) hs (totS xs + 22 * xs.length) (by omega) xs.length 0 (⟨#[]⟩ : ByteArray) 0 (by omega) (by rw [List.drop_zero, e0, Nat.zero_add]; exact Nat.le_refl _) (by omega)
  rw [List.drop_zero] at h
  exact h
theorem idx_cons_hit (b c : UInt8) (l : List UInt8) (h : b = c) : Lib.indexByte (b :: l) c = 0 := by simp [Lib.indexByte, h]
theorem idx_cons_neg (b c : UInt8) (l : List UInt8) (h : b ≠ c) : (Lib.indexByte (b :: l) c < 0) ↔ (Lib.indexByte l c < 0) := by
  have hb : (b == c) = false := beq_eq_false_iff_ne.2 h
  rcases idx_cases c l with e | ⟨j, e, _⟩
  · have e2 : Lib.indexByte (b :: l) c = -1 := by simp [Lib.indexByte, hb, e]
    rw [e, e2]
  · have hn : ((j : Int) == -1) = false := beq_eq_false_iff_ne.2 (by omega)
    have e2 : Lib.indexByte (b :: l) c = (j : Int) + 1 := by simp [Lib.indexByte, hb, e, hn]
    rw [e, e2]; omega
theorem jrnS_l1 (xs : List ByteArray) (i : Nat) (hi : i < xs.length) (hn : xs.length ≤ 1099511627776) (T : Int) (x : ByteArray) (hx : sn xs i = x) (hz : x.size ≤ 1099511627776) {r : ByteArray × Bool} (hr : Ev (fun k => spec_JournalOf.l0 k xs T ((i + 1 : Nat) : Int)) r) : ∀ (d p : Nat), p + d = x.size →
    Ev (fun k => spec_JournalOf.l1 k xs T (i : Int) (p : Int)) (if Lib.indexByte (x.data.toList.drop p) 10 < 0 then r else ((⟨#[]⟩ : ByteArray), false)) := by
  have c1 : (0 : Int) ≤ (i : Int) := by omega
  have c2 : (i : Int) < (xs.length : Int) := by omega
  have w1 := w64_succ (show i < 9223372036854775807 by omega)
  intro d
  induction d with
  | zero =>
    intro p h
    have c3 : ¬ (p : Int) < (x.size : Int) := by omega
    rw [List.drop_eq_nil_of_le (by rw [size_data]; omega), if_pos (by decide)]
    apply Ev.succ
    simp only [spec_JournalOf.l1, sr_nat, hx, w1]
    refine Ev.cond (fun _ => ?_) (fun h' => absurd c1 h')
    refine Ev.cond (fun _ => ?_) (fun h' => absurd c2 h')
    exact Ev.cond (fun h' => absurd h' c3) (fun _ => hr)
  | succ d ih =>
    intro p h
    have hl : p < x.size := by omega
    have c3 : (p : Int) < (x.size : Int) := by omega
    have c4 : (0 : Int) ≤ (p : Int) := by omega
    rw [drop_data hl]
    apply Ev.succ
    simp only [spec_JournalOf.l1, sr_nat, hx, bt_nat x p hl, w64_succ (show p < 9223372036854775807 by omega)]
    refine Ev.cond (fun _ => ?_) (fun h' => absurd c1 h')
    refine Ev.cond (fun _ => ?_) (fun h' => absurd c2 h')
    refine Ev.cond (fun _ => ?_) (fun h' => absurd c3 h')
    refine Ev.cond (fun _ => ?_) (fun h' => absurd c4 h')
    by_cases hb : x[p] = 10
    · rw [idx_cons_hit _ _ _ hb, if_neg (by decide)]
      exact Ev.cond (fun _ => Ev.now _) (fun h' => absurd (by rw [hb]; rfl) h')
    · have h3 := ih (p + 1) (by omega)
      simp only [idx_cons_neg _ _ _ hb]
      exact Ev.cond (fun h' => absurd (UInt8.toNat_inj.1 (show (x[p]).toNat = 10 by omega)) hb) (fun _ => h3)
theorem jrnS_l0 (xs : List ByteArray) (hn : xs.length ≤ 1048576) (hs : totS xs ≤ 1099511627776) : ∀ (d i T : Nat), i + d = xs.length → T ≤ 4000 →
    Ev (fun k => spec_JournalOf.l0 k xs (T : Int) (i : Int)) (if noNL (xs.drop i) = true ∧ T + sz3 (xs.drop i) ≤ 4000 then (if (jn xs 0 (⟨#[]⟩ : ByteArray)).size ≤ 4000 then (jn xs 0 (⟨#[]⟩ : ByteArray), true) else ((⟨#[]⟩ : ByteArray), false)) else ((⟨#[]⟩ : ByteArray), false)) := by
  intro d
  induction d with
  | zero =>
    intro i T h hT
    have c1 : ¬ (i : Int) < (xs.length : Int) := by omega
    rw [List.drop_eq_nil_of_le (by omega), if_pos ⟨rfl, hT⟩]
    apply Ev.succ
    simp only [spec_JournalOf.l0]
    refine Ev.cond (fun h' => absurd h' c1) (fun _ => ?_)
    refine Ev.bind (l11Journal_ev xs hn hs) ?_
    by_cases h4 : (jn xs 0 (⟨#[]⟩ : ByteArray)).size ≤ 4000
    · have c2 : ¬ ((jn xs 0 (⟨#[]⟩ : ByteArray)).size : Int) > 4000 := by omega
      rw [if_pos h4]
      exact Ev.cond (fun h' => absurd h' c2) (fun _ => Ev.now _)
    · have c2 : ((jn xs 0 (⟨#[]⟩ : ByteArray)).size : Int) > 4000 := by omega
      rw [if_neg h4]
      exact Ev.cond (fun _ => Ev.now _) (fun h' => absurd c2 h')
  | succ d ih =>
    intro i T h hT
    have hl : i < xs.length := by omega
    have c1 : (i : Int) < (xs.length : Int) := by omega
    have c2 : (0 : Int) ≤ (i : Int) := by omega
    rw [drop_sn hl, noNL_cons]
    have hz := Nat.le_trans (sn_size xs i) hs
    obtain ⟨x, hx⟩ : ∃ x, sn xs i = x := ⟨_, rfl⟩
    rw [hx] at hz ⊢
    have ew : wrap64 ((T : Int) + wrap64 ((x.size : Int) + 3)) = ((T + (x.size + 3) : Nat) : Int) := by
      rw [w64 (show -9223372036854775808 ≤ (x.size : Int) + 3 by omega) (by omega), w64 (by omega) (by omega)]; omega
    unfold sz3
    apply Ev.succ
    simp only [spec_JournalOf.l0, sr_nat, hx, ew]
    clear ew
    refine Ev.cond (fun _ => ?_) (fun h' => absurd c1 h')
    refine Ev.cond (fun _ => ?_) (fun h' => absurd c2 h')
    by_cases h4 : T + (x.size + 3) ≤ 4000
    · have c3 : ¬ ((T + (x.size + 3) : Nat) : Int) > 4000 := by omega
      refine Ev.cond (fun h' => absurd h' c3) (fun _ => ?_)
      have h3 := jrnS_l1 xs i hl (by omega) _ x hx hz (ih (i + 1) (T + (x.size + 3)) (by omega) h4) x.size 0 (by omega)
      rw [List.drop_zero] at h3
      by_cases hnl : Lib.indexByte x.data.toList 10 < 0
      · rw [if_pos hnl] at h3
        rw [decide_eq_true hnl, Bool.true_and, show T + ((x.size + 3) + sz3 (xs.drop (i + 1))) = T + (x.size + 3) + sz3 (xs.drop (i + 1)) by omega]
        exact h3
      · rw [if_neg hnl] at h3
        rw [decide_eq_false hnl, Bool.false_and, if_neg (fun h => absurd h.1 (by decide))]
        exact h3
    · have c3 : ((T + (x.size + 3) : Nat) : Int) > 4000 := by omega
      rw [if_neg (fun h => by have h2 : T + ((x.size + 3) + sz3 (xs.drop (i + 1))) ≤ 4000 := h.2; omega)]
      exact Ev.cond (fun _ => Ev.now _) (fun h' => absurd c3 h')
theorem JournalS_ev (xs : List ByteArray) (hn : xs.length ≤ 1048576) (hs : totS xs ≤ 1099511627776) : Ev (fun k => spec_JournalOf.f k xs) (jR xs) := by
  have h := jrnS_l0 xs hn hs xs.length 0 0 (by omega) (by omega)
  rw [List.drop_zero, Nat.zero_add] at h
  have hj := jn_size xs 0 (⟨#[]⟩ : ByteArray) (by omega)
  have e0 : (⟨#[]⟩ : ByteArray).size = 0 := rfl
  have e : (if noNL xs = true ∧ sz3 xs ≤ 4000 then (if (jn xs 0 (⟨#[]⟩ : ByteArray)).size ≤ 4000 then (jn xs 0 (⟨#[]⟩ : ByteArray), true) else ((⟨#[]⟩ : ByteArray), false)) else ((⟨#[]⟩ : ByteArray), false)) = jR xs := by
    unfold jR
    by_cases h1 : noNL xs = true
    · by_cases h2 : (jn xs 0 (⟨#[]⟩ : ByteArray)).size ≤ 4000
      · rw [if_pos ⟨h1, by omega⟩, if_pos h2, if_pos ⟨h1, h2⟩]
      · by_cases h3 : sz3 xs ≤ 4000
        · rw [if_pos ⟨h1, h3⟩, if_neg h2, if_neg (fun h => h2 h.2)]
        · rw [if_neg (fun h => h3 h.2), if_neg (fun h => h2 h.2)]
    · rw [if_neg (fun h => h1 h.1), if_neg (fun h => h1 h.1)]
  rw [e] at h
  exact h

/-! within -/
theorem within_eq (a b c : Int) : impl_within.f a b c = some (decide (b ≤ a ∧ a ≤ c)) := by
  unfold impl_within.f
  by_cases h : b ≤ a
  · simp [h, ge_iff_le]
  · simp [h, ge_iff_le]

/-! CheckOf -/
theorem CheckOf_ev (s : ByteArray) (hs : s.size ≤ 1099511627776) (c : Int) (hc : 0 ≤ c ∧ c ≤ 65002) : Ev (fun k => impl_CheckOf.f k c s) (ckL c s.data.toList, true) := by
  unfold impl_CheckOf.f
  refine Ev.bind (Ev.const (within_eq _ _ _)) ?_
  rw [decide_eq_true hc]
  exact Ev.cond (fun _ => CheckOf_l0 s hs s.size 0 c (by omega) hc) (fun h' => absurd rfl h')

/-! decI -/
/-- A number in decimal. -/
def decS (n : Int) : ByteArray := ofL (Lib.itoa n)
theorem Decimal_eq (n : Int) (h1 : -9223372036854775808 ≤ n) (h2 : n ≤ 9223372036854775807) : impl_Decimal.f n = some (decS n) := by
  unfold impl_Decimal.f strconv_FormatInt.f
  rw [if_pos ⟨rfl, h1, h2⟩]; rfl

/-! jrnI -/
theorem Contains_eq (x : ByteArray) : strings_Contains.f x (⟨#[10]⟩ : ByteArray) = some (decide (0 ≤ Lib.indexByte x.data.toList 10)) := rfl
theorem jrnI_l0 (xs : List ByteArray) (hn : xs.length ≤ 1099511627776) (hs : totS xs ≤ 1099511627776) : ∀ (d i : Nat) (a : ByteArray) (c : Int), i + d = xs.length → a.size ≤ 4000 → 0 ≤ c ∧ c ≤ 65002 →
    Ev (fun k => impl_JournalOf.l0 k xs a c (i : Int)) (if noNL (xs.drop i) = true ∧ (jn (xs.drop i) c a).size ≤ 4000 then (jn (xs.drop i) c a, true) else ((⟨#[]⟩ : ByteArray), false)) := by
  intro d
  induction d with
  | zero =>
    intro i a c h ha hc
    have c1 : ¬ (i : Int) < (xs.length : Int) := by omega
    rw [List.drop_eq_nil_of_le (by omega), if_pos ⟨rfl, ha⟩]
    apply Ev.succ
    simp only [impl_JournalOf.l0]
    exact Ev.cond (fun h' => absurd h' c1) (fun _ => Ev.now _)
  | succ d ih =>
    intro i a c h ha hc
    have hl : i < xs.length := by omega
    have c1 : (i : Int) < (xs.length : Int) := by omega
    have c2 : (0 : Int) ≤ (i : Int) := by omega
    rw [drop_sn hl, noNL_cons]
    have hz := Nat.le_trans (sn_size xs i) hs
    obtain ⟨x, hx⟩ : ∃ x, sn xs i = x := ⟨_, rfl⟩
    rw [hx] at hz ⊢
    have hck := ckL_in x.data.toList c hc
    have hk := CheckOf_ev x hz c hc
    have hd := Decimal_eq (ckL c x.data.toList) (by omega) (by omega)
    have hi := itoa_ck _ hck
    have hp := piece_size c hc x
    have hjs := jn_size (xs.drop (i + 1)) (ckL c x.data.toList) (a ++ piece c x) hck
    have c3 : (decS (ckL c x.data.toList)).size + 1 + x.size + 1 ≤ 9223372036854775807 := by
      unfold decS
      rw [ofL_size]; omega
    have c4 : a.size + (piece c x).size ≤ 140737488355328 := by omega
    apply Ev.succ
    simp only [impl_JournalOf.l0, sr_nat, hx, w64_succ (show i < 9223372036854775807 by omega)]
    refine Ev.cond (fun _ => ?_) (fun h' => absurd c1 h')
    refine Ev.cond (fun _ => ?_) (fun h' => absurd c2 h')
    refine Ev.bind (Ev.const (Contains_eq x)) ?_
    by_cases hnl : 0 ≤ Lib.indexByte x.data.toList 10
    · rw [decide_eq_true hnl, decide_eq_false (show ¬ Lib.indexByte x.data.toList 10 < 0 by omega), Bool.false_and, if_neg (fun h => absurd h.1 (by decide))]
      exact Ev.cond (fun _ => Ev.now _) (fun h' => absurd rfl h')
    · rw [decide_eq_false hnl, decide_eq_true (show Lib.indexByte x.data.toList 10 < 0 by omega), Bool.true_and]
      refine Ev.cond (fun h' => absurd h' (by decide)) (fun _ => ?_)
      refine Ev.bind hk ?_
      refine Ev.bind (Ev.const hd) ?_
      refine Ev.cond (fun _ => ?_) (fun h' => absurd c3 h')
      refine Ev.cond (fun _ => ?_) (fun h' => absurd c4 h')
      have hsz : (a ++ piece c x).size = a.size + (piece c x).size := ByteArray.size_append
      by_cases h4 : (a ++ piece c x).size ≤ 4000
      · have c5 : ¬ ((a ++ piece c x).size : Int) > 4000 := by omega
        exact Ev.cond (fun h' => absurd h' c5) (fun _ => ih (i + 1) (a ++ piece c x) _ (by omega) h4 hck)
      · have c5 : ((a ++ piece c x).size : Int) > 4000 := by omega
        rw [if_neg (fun h => by
          have h2 : (jn (xs.drop (i + 1)) (ckL c x.data.toList) (a ++ piece c x)).size ≤ 4000 := h.2
          omega)]
        exact Ev.cond (fun _ => Ev.now _) (fun h' => absurd c5 h')
theorem JournalI_ev (xs : List ByteArray) (hn : xs.length ≤ 1099511627776) (hs : totS xs ≤ 1099511627776) : Ev (fun k => impl_JournalOf.f k xs) (jR xs) := by
  have h := jrnI_l0 xs hn hs xs.length 0 (⟨#[]⟩ : ByteArray) 0 (by omega) (Nat.zero_le _) (by omega)
  rw [List.drop_zero] at h
  exact h

/-! szStringS -/
theorem szS_l0 (xs : List ByteArray) (hs : ∀ x ∈ xs, x.size ≤ 9223372036854775807) (hn : xs.length ≤ 1099511627776) : ∀ (d n : Nat) (left : Int), n + d = xs.length → 0 ≤ left → left ≤ 1048576 → ∃ v : Int, Ev (fun k => laws_szStringS.l0 k xs left (n : Int)) v ∧ (v = -1 ∨ (0 ≤ v ∧ v + (totS (xs.drop n) : Int) = left)) := by
  intro d
  induction d with
  | zero =>
    intro n left h h0 h1
    have c1 : ¬ (n : Int) < (xs.length : Int) := by omega
    refine ⟨left, ?_, .inr ⟨h0, ?_⟩⟩
    · apply Ev.succ
      simp only [laws_szStringS.l0]
      exact Ev.cond (fun h' => absurd h' c1) (fun _ => Ev.now _)
    · rw [List.drop_eq_nil_of_le (by omega)]
      simp [totS]
  | succ d ih =>
    intro n left h h0 h1
    have hl : n < xs.length := by omega
    have c1 : (n : Int) < (xs.length : Int) := by omega
    have c2 : (0 : Int) ≤ (n : Int) := by omega
    have hb := hs _ (sn_mem hl)
    have e : wrap64 (left - ((sn xs n).size : Int)) = left - ((sn xs n).size : Int) := w64 (by omega) (by omega)
    by_cases hc : left - ((sn xs n).size : Int) < 0
    · refine ⟨-1, ?_, .inl rfl⟩
      apply Ev.succ
      simp only [laws_szStringS.l0, sr_nat, e]
      refine Ev.cond (fun _ => ?_) (fun h' => absurd c1 h')
      refine Ev.cond (fun _ => ?_) (fun h' => absurd c2 h')
      exact Ev.cond (fun _ => Ev.now _) (fun h' => absurd hc h')
    · obtain ⟨v, hv, hp⟩ := ih (n + 1) (left - ((sn xs n).size : Int)) (by omega) (by omega) (by omega)
      refine ⟨v, ?_, ?_⟩
      · apply Ev.succ
        simp only [laws_szStringS.l0, sr_nat, e, w64_succ (show n < 9223372036854775807 by omega)]
        refine Ev.cond (fun _ => ?_) (fun h' => absurd c1 h')
        refine Ev.cond (fun _ => ?_) (fun h' => absurd c2 h')
        exact Ev.cond (fun h' => absurd h' hc) (fun _ => hv)
      · rcases hp with hp | ⟨hp, hq⟩
        · exact .inl hp
        · refine .inr ⟨hp, ?_⟩
          rw [drop_sn hl]
          unfold totS
          omega
theorem szS_ev (xs : List ByteArray) (hs : ∀ x ∈ xs, x.size ≤ maxLen) (hn : xs.length ≤ maxLen) (left : Int) (h0 : 0 ≤ left) (h1 : left ≤ 1048576) : ∃ v : Int, Ev (fun k => laws_szStringS.f k xs left) v ∧ (v = -1 ∨ (0 ≤ v ∧ v + (xs.length : Int) + (totS xs : Int) = left)) := by
  have hmx : maxLen ≤ 9223372036854775807 := by decide
  have e : wrap64 (left - (xs.length : Int)) = left - (xs.length : Int) := w64 (by omega) (by omega)
  unfold laws_szStringS.f
  simp only [e]
  by_cases hc : left - (xs.length : Int) < 0
  · exact ⟨-1, Ev.cond (fun _ => Ev.now _) (fun h' => absurd hc h'), .inl rfl⟩
  · obtain ⟨v, hv, hp⟩ := szS_l0 xs (fun x hx => Nat.le_trans (hs x hx) hmx) (by omega) xs.length 0 (left - (xs.length : Int)) (by omega) (by omega) (by omega)
    refine ⟨v, Ev.cond (fun h' => absurd h' hc) (fun _ => hv), ?_⟩
    rcases hp with hp | ⟨hp, hq⟩
    · exact .inl hp
    · rw [List.drop_zero] at hq
      exact .inr ⟨hp, by omega⟩

/-! toStringS -/
theorem toStringS_l0 (xs : List ByteArray) (hn : xs.length ≤ 1099511627776) : ∀ d n, n + d = xs.length → Ev (fun k => laws_toStringS.l0 k xs (xs.take n ++ List.replicate d (⟨#[]⟩ : ByteArray)) (n : Int)) xs := by
  intro d
  induction d with
  | zero =>
    intro n h
    have c1 : ¬ (n : Int) < (xs.length : Int) := by omega
    rw [List.take_of_length_le (by omega), List.replicate_zero, List.append_nil]
    apply Ev.succ
    simp only [laws_toStringS.l0]
    exact Ev.cond (fun h' => absurd h' c1) (fun _ => Ev.now _)
  | succ d ih =>
    intro n h
    have hl : n < xs.length := by omega
    have c1 : (n : Int) < (xs.length : Int) := by omega
    have c2 : (0 : Int) ≤ (n : Int) := by omega
    have h3 := ih (n + 1) (by omega)
    have c4 : (n : Int) < ((xs.take n ++ List.replicate (d + 1) (⟨#[]⟩ : ByteArray)).length : Int) := by
      simp only [List.length_append, List.length_take, List.length_replicate]; omega
    have h5 : (xs.take n ++ List.replicate (d + 1) (⟨#[]⟩ : ByteArray)).set n (sn xs n) = xs.take (n + 1) ++ List.replicate d (⟨#[]⟩ : ByteArray) := by
      rw [List.replicate_succ, set_mid _ _ _ _ _ (by rw [List.length_take]; omega), take_sn hl, List.append_assoc, List.singleton_append]
    apply Ev.succ
    simp only [laws_toStringS.l0, sr_nat, Int.toNat_natCast, h5, w64_succ (show n < 9223372036854775807 by omega)]
    refine Ev.cond (fun _ => ?_) (fun h' => absurd c1 h')
    refine Ev.cond (fun _ => ?_) (fun h' => absurd c2 h')
    exact Ev.cond (fun _ => h3) (fun h' => absurd c4 h')
theorem toStringS_ev (xs : List ByteArray) (hn : xs.length ≤ 1099511627776) : Ev (fun k => laws_toStringS.f k xs) xs := by
  have c1 : (0 : Int) ≤ (xs.length : Int) := by omega
  have c2 : xs.length ≤ 17592186044416 := by omega
  unfold laws_toStringS.f
  simp only [Int.toNat_natCast]
  refine Ev.cond (fun _ => ?_) (fun h' => absurd c1 h')
  exact Ev.cond (fun _ => toStringS_l0 xs hn xs.length 0 (by omega)) (fun h' => absurd c2 h')

/-! eqStringS -/
theorem eqStringS_l0 (xs ys : List ByteArray) (hl : xs.length = ys.length) (hn : xs.length ≤ 1099511627776) : ∀ d n, n + d = xs.length → Ev (fun k => laws_eqStringS.l0 k xs ys (n : Int)) (decide (xs.drop n = ys.drop n)) := by
  intro d
  induction d with
  | zero =>
    intro n h
    have c1 : ¬ (n : Int) < (xs.length : Int) := by omega
    rw [List.drop_eq_nil_of_le (show xs.length ≤ n by omega), List.drop_eq_nil_of_le (show ys.length ≤ n by omega), decide_eq_true rfl]
    apply Ev.succ
    simp only [laws_eqStringS.l0]
    exact Ev.cond (fun h' => absurd h' c1) (fun _ => Ev.now _)
  | succ d ih =>
    intro n h
    have c1 : (n : Int) < (xs.length : Int) := by omega
    have c2 : (0 : Int) ≤ (n : Int) := by omega
    have c3 : (n : Int) < (ys.length : Int) := by omega
    have h3 := ih (n + 1) (by omega)
    rw [drop_sn (show n < xs.length by omega), drop_sn (show n < ys.length by omega)]
    apply Ev.succ
    simp only [laws_eqStringS.l0, sr_nat, w64_succ (show n < 9223372036854775807 by omega), List.cons.injEq]
    refine Ev.cond (fun _ => ?_) (fun h' => absurd c1 h')
    refine Ev.cond (fun _ => ?_) (fun h' => absurd c2 h')
    refine Ev.cond (fun _ => ?_) (fun h' => absurd c3 h')
    by_cases hc : (sn xs n) = (sn ys n)
    · refine Ev.cond (fun _ => ?_) (fun h' => absurd (by rw [hc]) h')
      simp only [hc, true_and]; exact h3
    · refine Ev.cond (fun h' => absurd (bytes_ext h') hc) (fun _ => ?_)
      simp only [hc, false_and, decide_false]; exact Ev.now false
theorem eqStringS_ev (xs ys : List ByteArray) (hn : xs.length ≤ 1099511627776) : Ev (fun k => laws_eqStringS.f k xs ys) (decide (xs = ys)) := by
  unfold laws_eqStringS.f
  by_cases hl : xs.length = ys.length
  · have c1 : (xs.length : Int) = (ys.length : Int) := by omega
    exact Ev.cond (fun _ => eqStringS_l0 xs ys hl hn xs.length 0 (by omega)) (fun h' => absurd c1 h')
  · have c1 : ¬ (xs.length : Int) = (ys.length : Int) := by omega
    rw [decide_eq_false (fun h => hl (by rw [h]))]
    exact Ev.cond (fun h' => absurd h' c1) (fun _ => Ev.now false)
theorem eqStringS_same (xs : List ByteArray) (hn : xs.length ≤ 1099511627776) : Ev (fun k => laws_eqStringS.f k xs xs) true := by
  have h := eqStringS_ev xs xs hn
  rw [decide_eq_true rfl] at h
  exact h

theorem FnExactJournalOf : laws_FnExactJournalOf.Pure := by
  intro ws hm0 hx0
  refine Ev.rounds ?_
  unfold laws_FnExactJournalOf.f
  obtain ⟨v, hv, hp⟩ := szS_ev ws hx0 hm0 1048576 (by omega) (by omega)
  refine Ev.bind hv ?_
  rcases hp with rfl | ⟨hp, hq⟩
  · exact Ev.cond (fun _ => Ev.now _) (fun h' => absurd (by decide) h')
  have n1 : ¬ v < 0 := by omega
  refine Ev.cond (fun h' => absurd h' n1) (fun _ => ?_)
  have l1 : ws.length ≤ 1048576 := by omega
  have l2 : ws.length ≤ 1099511627776 := by omega
  have z1 : totS ws ≤ 1099511627776 := by omega
  have t1 := toStringS_ev ws l2
  refine Ev.bind t1 (Ev.bind (JournalS_ev ws l1 z1) (Ev.bind t1 (Ev.bind (JournalI_ev ws l2 z1) ?_)))
  refine Ev.cond (fun _ => ?_) (fun h' => absurd (by trivial) h')
  rw [bne_self_eq_false]
  apply Ev.succ
  simp only [laws_FnExactJournalOf.j0]
  refine Ev.cond (fun h' => absurd h' (by decide)) (fun _ => ?_)
  refine Ev.bind t1 (Ev.bind (eqStringS_same ws l2) ?_)
  exact Ev.cond (fun _ => Ev.now _) (fun h' => absurd (by trivial) h')

end Go.Proofs.YtohdepanfnaddaaDoor.Pure
