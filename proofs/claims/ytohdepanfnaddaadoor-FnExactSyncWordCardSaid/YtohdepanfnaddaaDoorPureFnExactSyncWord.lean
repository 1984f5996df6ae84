/- For all words the program's SyncWord answers what the reference's does: the search over sorted texts is the search over numbers. -/
import Derived.Test.YtohdepanfnaddaaDoorQFnExactSyncWordx7
import Derived.Test.YtohdepanfnaddaaDoorBase
import Derived.Test.YtohdepanfnaddaaDoorPoly
namespace Go.Proofs.YtohdepanfnaddaaDoor.Pure
open Go.RowKit Go.Proofs.YtohdepanfnaddaaDoor.QFnExactSyncWord Go.Proofs.YtohdepanfnaddaaDoor.Base Go.Proofs.YtohdepanfnaddaaDoorW.PrintWords Go.Proofs.YtohdepanfnaddaaDoorW.PrintLast Go.Proofs.YtohdepanfnaddaaDoorW.PrintMore
open Go.Proofs.YtohdepanfnaddaaDoor.Poly
set_option linter.unusedVariables false
set_option linter.unusedSimpArgs false

/-! strL -/
/-- A text of a list, by its place. -/
def sn (xs : List ByteArray) (n : Nat) : ByteArray := xs.getD n ByteArray.empty
theorem sr_nat (xs : List ByteArray) (n : Nat) : rdOf ByteArray.empty xs (n : Int) = sn xs n := by unfold rdOf sn; rw [Int.toNat_natCast]
theorem sn_get {xs : List ByteArray} {n : Nat} (h : n < xs.length) : sn xs n = xs[n] := by
  unfold sn
  rw [List.getD_eq_getElem?_getD, List.getElem?_eq_getElem h]; rfl
theorem sn_mem {xs : List ByteArray} {n : Nat} (h : n < xs.length) : sn xs n ∈ xs := by rw [sn_get h]; exact List.getElem_mem h
theorem drop_sn {xs : List ByteArray} {n : Nat} (h : n < xs.length) : xs.drop n = sn xs n :: xs.drop (n + 1) := by
  rw [sn_get h, List.drop_eq_getElem_cons h]
theorem take_sn {xs : List ByteArray} {n : Nat} (h : n < xs.length) : xs.take (n + 1) = xs.take n ++ [sn xs n] := by
  rw [sn_get h, List.take_succ_eq_append_getElem h]
/-- The sizes of texts together. -/
def totS : List ByteArray → Nat
  | [] => 0
  | x :: r => x.size + totS r
theorem totS_mem {xs : List ByteArray} {x : ByteArray} (h : x ∈ xs) : x.size ≤ totS xs := by
  induction xs with
  | nil => exact absurd h (by simp)
  | cons y xs ih =>
    unfold totS
    rcases List.mem_cons.1 h with rfl | h
    · omega
    · have := ih h; omega
theorem sn_size (xs : List ByteArray) (n : Nat) : (sn xs n).size ≤ totS xs := by
  by_cases h : n < xs.length
  · exact totS_mem (sn_mem h)
  · have e : sn xs n = ByteArray.empty := by
      unfold sn
      rw [List.getD_eq_getElem?_getD, List.getElem?_eq_none (by omega)]; rfl
    rw [e]; exact Nat.zero_le _
theorem bytes_ext {a b : ByteArray} (h : a.toList = b.toList) : a = b := by
  rw [Lib.toList_data, Lib.toList_data] at h
  exact ByteArray.ext (Array.ext' h)
instance decMemS : (x : ByteArray) → (xs : List ByteArray) → Decidable (x ∈ xs)
  | x, [] => isFalse (by simp)
  | x, y :: r => if h : x = y then isTrue (by rw [h]; exact List.mem_cons_self) else match decMemS x r with
    | isTrue h2 => isTrue (List.mem_cons_of_mem _ h2)
    | isFalse h2 => isFalse (fun h3 => by rcases List.mem_cons.1 h3 with h3 | h3; exact h h3; exact h2 h3)

/-! code05 -/
/-- What a code has at a place. -/
def codeI (ws : List ByteArray) (n : Nat) : Bool := decide (1 ≤ (sn ws n).size ∧ (sn ws n).size ≤ 12) && ((sn ws n).data.toList.all isBitB && !decide (sn ws n ∈ ws.take n))
def codeR (ws : List ByteArray) (n d : Nat) : Bool := (List.range' n d).all (codeI ws)
theorem codeR_succ (ws : List ByteArray) (n d : Nat) : codeR ws n (d + 1) = (codeI ws n && codeR ws (n + 1) d) := rfl
/-- A code. -/
def codeB (ws : List ByteArray) : Bool := decide (1 ≤ ws.length ∧ ws.length ≤ 16) && codeR ws 0 ws.length
theorem codeR_at (ws : List ByteArray) : ∀ (d n : Nat), codeR ws n d = true → ∀ i, n ≤ i → i < n + d → codeI ws i = true := by
  intro d n h i h1 h2
  unfold codeR at h
  rw [List.all_eq_true] at h
  exact h i (List.mem_range'_1.2 ⟨h1, h2⟩)
theorem codeB_len {ws : List ByteArray} (h : codeB ws = true) : 1 ≤ ws.length ∧ ws.length ≤ 16 := by
  unfold codeB at h
  rw [Bool.and_eq_true] at h
  exact of_decide_eq_true h.1
theorem codeB_at {ws : List ByteArray} (h : codeB ws = true) {i : Nat} (hi : i < ws.length) : (1 ≤ (sn ws i).size ∧ (sn ws i).size ≤ 12) ∧ (sn ws i).data.toList.all isBitB = true ∧ sn ws i ∉ ws.take i := by
  unfold codeB at h
  rw [Bool.and_eq_true] at h
  have h2 := codeR_at ws _ _ h.2 i (Nat.zero_le _) (by omega)
  unfold codeI at h2
  rw [Bool.and_eq_true, Bool.and_eq_true, Bool.not_eq_true', decide_eq_false_iff_not] at h2
  exact ⟨of_decide_eq_true h2.1, h2.2.1, h2.2.2⟩
theorem codeB_size {ws : List ByteArray} (h : codeB ws = true) (i : Nat) : (sn ws i).size ≤ 12 := by
  by_cases hi : i < ws.length
  · exact (codeB_at h hi).1.2
  · have e : sn ws i = ByteArray.empty := by
      unfold sn
      rw [List.getD_eq_getElem?_getD, List.getElem?_eq_none (by omega)]; rfl
    rw [e]; exact Nat.zero_le _
/-- Whether a text begins another one. -/
def isPre (p s : ByteArray) : Bool := decide (p.size ≤ s.size) && ((s.extract 0 p.size).toList == p.toList)
def preR (ws : List ByteArray) (i n d : Nat) : Bool := (List.range' n d).all (fun k => decide (i = k) || !isPre (sn ws i) (sn ws k))
theorem preR_succ (ws : List ByteArray) (i n d : Nat) : preR ws i n (d + 1) = ((decide (i = n) || !isPre (sn ws i) (sn ws n)) && preR ws i (n + 1) d) := rfl
def prefR (ws : List ByteArray) (n d : Nat) : Bool := (List.range' n d).all (fun i => preR ws i 0 ws.length)
theorem prefR_succ (ws : List ByteArray) (n d : Nat) : prefR ws n (d + 1) = (preR ws n 0 ws.length && prefR ws (n + 1) d) := rfl
/-- The sum of the words' shares. -/
def krF : List ByteArray → Int → Int
  | [], a => a
  | w :: r, a => krF r (wrap64 (a + shl .i64 1 (12 - (w.size : Int))))
/-- A complete code's property, of a code. -/
def complB (ws : List ByteArray) : Bool := prefR ws 0 ws.length && decide (krF ws 0 = 4096)

/-! kraft -/
/-- A proper beginning of a word. -/
def PP (W : List (List UInt8)) (p : List UInt8) : Prop := ∃ c r, p ++ c :: r ∈ W
/-- Behind a first letter. -/
def tlL (c : UInt8) (W : List (List UInt8)) : List (List UInt8) := W.filterMap fun w => match w with | x :: r => if x = c then some r else none | [] => none
/-- The sum of the words' shares. -/
def KK (d : Nat) (W : List (List UInt8)) : Nat := (W.map fun w => 2 ^ (d - w.length)).sum
/-- No word begins another one, all are of bits, and none is longer than a number. -/
structure PF (d : Nat) (W : List (List UInt8)) : Prop where
  nd : W.Nodup
  pre : ∀ u ∈ W, ∀ v, u ++ v ∈ W → v = []
  bit : ∀ w ∈ W, ∀ c ∈ w, c = 48 ∨ c = 49
  len : ∀ w ∈ W, w.length ≤ d
theorem tlL_mem {c : UInt8} {W : List (List UInt8)} {r : List UInt8} : r ∈ tlL c W ↔ c :: r ∈ W := by
  unfold tlL
  rw [List.mem_filterMap]
  constructor
  · rintro ⟨w, hw, h⟩
    cases w with
    | nil => simp at h
    | cons x s =>
      by_cases hx : x = c
      · rw [hx] at h hw; simp at h; rw [← h]; exact hw
      · simp [hx] at h
  · intro h
    exact ⟨_, h, by simp⟩
theorem tlL_cons (c : UInt8) (w : List UInt8) (W : List (List UInt8)) : tlL c (w :: W) = (match w with | x :: r => if x = c then r :: tlL c W else tlL c W | [] => tlL c W) := by
  unfold tlL
  cases w with
  | nil => rfl
  | cons x r =>
    by_cases h : x = c
    · simp [h]
    · simp [h]
theorem tlL_nodup {c : UInt8} : ∀ {W : List (List UInt8)}, W.Nodup → (tlL c W).Nodup
  | [], _ => List.nodup_nil
  | w :: W, h => by
    rw [List.nodup_cons] at h
    have ih := tlL_nodup (c := c) h.2
    rw [tlL_cons]
    cases w with
    | nil => exact ih
    | cons x r =>
      by_cases hx : x = c
      · simp only [hx, if_true]
        rw [List.nodup_cons]
        exact ⟨fun hm => h.1 (by rw [hx]; exact tlL_mem.1 hm), ih⟩
      · simp only [hx, if_false]; exact ih
theorem PF.tl {d : Nat} {W : List (List UInt8)} (h : PF (d + 1) W) (c : UInt8) : PF d (tlL c W) where
  nd := tlL_nodup h.nd
  pre := fun u hu v huv => h.pre (c :: u) (tlL_mem.1 hu) v (tlL_mem.1 huv)
  bit := fun w hw x hx => h.bit _ (tlL_mem.1 hw) x (List.mem_cons_of_mem _ hx)
  len := fun w hw => by have := h.len _ (tlL_mem.1 hw); rw [List.length_cons] at this; omega
theorem PF.nil {d : Nat} {W : List (List UInt8)} (h : PF d W) (h0 : [] ∈ W) : W = [[]] := by
  have hall : ∀ w ∈ W, w = [] := fun w hw => h.pre [] h0 w (by rw [List.nil_append]; exact hw)
  cases W with
  | nil => exact absurd h0 (by simp)
  | cons w W =>
    have e := hall w List.mem_cons_self
    subst e
    cases W with
    | nil => rfl
    | cons v W =>
      have e := hall v (List.mem_cons_of_mem _ List.mem_cons_self)
      subst e
      exact absurd List.mem_cons_self (List.nodup_cons.1 h.nd).1
/-- Words that are not empty: by their first letters. -/
theorem KK_tl (d : Nat) : ∀ (W : List (List UInt8)), [] ∉ W → (∀ w ∈ W, ∀ c ∈ w, c = 48 ∨ c = 49) → KK (d + 1) W = KK d (tlL 48 W) + KK d (tlL 49 W) ∧ W.length = (tlL 48 W).length + (tlL 49 W).length
  | [], _, _ => ⟨rfl, rfl⟩
  | w :: W, h0, hb => by
    obtain ⟨i1, i2⟩ := KK_tl d W (fun h => h0 (List.mem_cons_of_mem _ h)) (fun w hw => hb w (List.mem_cons_of_mem _ hw))
    rw [tlL_cons, tlL_cons]
    cases w with
    | nil => exact absurd List.mem_cons_self h0
    | cons x r =>
      have e : ∀ V : List (List UInt8), KK d (r :: V) = 2 ^ (d - r.length) + KK d V := fun V => by unfold KK; rw [List.map_cons, List.sum_cons]
      have e1 : KK (d + 1) ((x :: r) :: W) = 2 ^ (d - r.length) + KK (d + 1) W := by
        unfold KK; rw [List.map_cons, List.sum_cons, List.length_cons, Nat.add_sub_add_right]
      rcases hb _ List.mem_cons_self x List.mem_cons_self with rfl | rfl
      · have n1 : ¬ (48 : UInt8) = 49 := by decide
        simp only [n1, if_true, if_false, e, e1, List.length_cons]; omega
      · have n1 : ¬ (49 : UInt8) = 48 := by decide
        simp only [n1, if_true, if_false, e, e1, List.length_cons]; omega
theorem KK_le : ∀ (d : Nat) (W : List (List UInt8)), PF d W → KK d W ≤ 2 ^ d
  | d, W, h => by
    by_cases h0 : [] ∈ W
    · rw [h.nil h0]; unfold KK; simp
    · cases d with
      | zero =>
        have e : W = [] := by
          cases W with
          | nil => rfl
          | cons w W =>
            have := h.len w List.mem_cons_self
            have e2 : w = [] := List.eq_nil_of_length_eq_zero (by omega)
            subst e2
            exact absurd List.mem_cons_self h0
        rw [e]; exact Nat.zero_le _
      | succ d =>
        have h1 := KK_le d _ (h.tl 48)
        have h2 := KK_le d _ (h.tl 49)
        rw [(KK_tl d W h0 h.bit).1, Nat.pow_succ]; omega
theorem KK_both {d : Nat} {W : List (List UInt8)} (h : PF (d + 1) W) (h0 : [] ∉ W) (hk : KK (d + 1) W = 2 ^ (d + 1)) : KK d (tlL 48 W) = 2 ^ d ∧ KK d (tlL 49 W) = 2 ^ d := by
  have h1 := KK_le d _ (h.tl 48)
  have h2 := KK_le d _ (h.tl 49)
  rw [(KK_tl d W h0 h.bit).1, Nat.pow_succ] at hk; omega
theorem KK_ne {d : Nat} {W : List (List UInt8)} (hk : KK d W = 2 ^ d) : ∃ w, w ∈ W := by
  cases W with
  | nil => have := Nat.two_pow_pos d; unfold KK at hk; simp at hk; omega
  | cons w W => exact ⟨w, List.mem_cons_self⟩
/-- Of a full code: behind a beginning each bit makes a word or a beginning. -/
theorem PP_next : ∀ (d : Nat) (W : List (List UInt8)), PF d W → KK d W = 2 ^ d → ∀ (p : List UInt8) (c : UInt8), PP W p → (c = 48 ∨ c = 49) → p ++ [c] ∈ W ∨ PP W (p ++ [c])
  | d, W, h, hk, p, c, hp, hc => by
    have h0 : [] ∉ W := by
      intro h0
      obtain ⟨x, r, hx⟩ := hp
      rw [h.nil h0] at hx
      simp at hx
    cases d with
    | zero =>
      obtain ⟨w, hw⟩ := KK_ne hk
      have := h.len w hw
      have e2 : w = [] := List.eq_nil_of_length_eq_zero (by omega)
      rw [e2] at hw
      exact absurd hw h0
    | succ d =>
      obtain ⟨k0, k1⟩ := KK_both h h0 hk
      cases p with
      | nil =>
        have hkc : KK d (tlL c W) = 2 ^ d := by rcases hc with rfl | rfl <;> assumption
        obtain ⟨r, hr⟩ := KK_ne hkc
        have hr := tlL_mem.1 hr
        cases r with
        | nil => exact .inl hr
        | cons y r => exact .inr ⟨y, r, hr⟩
      | cons x p =>
        obtain ⟨y, r, hy⟩ := hp
        have hx := h.bit _ hy x (by simp)
        have hkx : KK d (tlL x W) = 2 ^ d := by rcases hx with rfl | rfl <;> assumption
        rcases PP_next d (tlL x W) (h.tl x) hkx p c ⟨y, r, tlL_mem.2 hy⟩ hc with h1 | ⟨z, s, h1⟩
        · exact .inl (tlL_mem.1 h1)
        · exact .inr ⟨z, s, tlL_mem.1 h1⟩
theorem tl_length : ∀ (L : List (List UInt8)), (∀ p ∈ L, ∀ c ∈ p, c = 48 ∨ c = 49) → L.Nodup → L.length ≤ 1 + (tlL 48 L).length + (tlL 49 L).length
  | L, hb, hn => by
    by_cases h0 : [] ∈ L
    · have hp := List.perm_cons_erase h0
      have hn2 : ([] :: L.erase []).Nodup := hp.nodup_iff.1 hn
      rw [List.nodup_cons] at hn2
      have h1 := (KK_tl 0 (L.erase []) hn2.1 (fun w hw => hb w (List.mem_of_mem_erase hw))).2
      have e : ∀ c, (tlL c (L.erase [])).length = (tlL c L).length := fun c => by
        have h2 : (tlL c L).Perm (tlL c ([] :: L.erase [])) := hp.filterMap _
        rw [h2.length_eq, tlL_cons]
      rw [e, e] at h1
      have h3 := hp.length_eq
      rw [List.length_cons] at h3; omega
    · have h1 := (KK_tl 0 L h0 hb).2; omega
/-- Of a full code: less beginnings than words. -/
theorem PP_few : ∀ (d : Nat) (W L : List (List UInt8)), PF d W → KK d W = 2 ^ d → L.Nodup → (∀ p ∈ L, PP W p) → L.length + 1 ≤ W.length
  | d, W, L, h, hk, hn, hL => by
    by_cases h0 : [] ∈ W
    · have e := h.nil h0
      subst e
      cases L with
      | nil => exact Nat.le_refl _
      | cons p L =>
        obtain ⟨c, r, hx⟩ := hL p List.mem_cons_self
        simp at hx
    cases d with
    | zero =>
      obtain ⟨w, hw⟩ := KK_ne hk
      have := h.len w hw
      have e2 : w = [] := List.eq_nil_of_length_eq_zero (by omega)
      rw [e2] at hw
      exact absurd hw h0
    | succ d =>
      obtain ⟨k0, k1⟩ := KK_both h h0 hk
      have hLb : ∀ p ∈ L, ∀ c ∈ p, c = 48 ∨ c = 49 := fun p hp c hc => by
        obtain ⟨x, r, hx⟩ := hL p hp
        exact h.bit _ hx c (List.mem_append_left _ hc)
      have hs : ∀ c, ∀ p ∈ tlL c L, PP (tlL c W) p := fun c p hp => by
        obtain ⟨x, r, hx⟩ := hL _ (tlL_mem.1 hp)
        exact ⟨x, r, tlL_mem.2 hx⟩
      have h1 := PP_few d (tlL 48 W) (tlL 48 L) (h.tl 48) k0 (tlL_nodup hn) (hs 48)
      have h2 := PP_few d (tlL 49 W) (tlL 49 L) (h.tl 49) k1 (tlL_nodup hn) (hs 49)
      have h3 := tl_length L hLb hn
      have h4 := (KK_tl d W h0 h.bit).2
      omega

/-! byt -/
/-- A text of bytes. -/
def ofL (l : List UInt8) : ByteArray := ⟨l.toArray⟩
theorem ofL_data (l : List UInt8) : (ofL l).data.toList = l := rfl
theorem ofL_list (l : List UInt8) : (ofL l).toList = l := by rw [Lib.toList_data, ofL_data]
theorem ofL_size (l : List UInt8) : (ofL l).size = l.length := by rw [← size_data, ofL_data]
theorem ofL_of (s : ByteArray) : ofL s.data.toList = s := ByteArray.ext (Array.ext' rfl)
theorem ofL_inj {a b : List UInt8} (h : ofL a = ofL b) : a = b := by rw [← ofL_data a, h, ofL_data]
theorem ext_data (s : ByteArray) (a b : Nat) : (s.extract a b).data.toList = (s.data.toList.drop a).take (b - a) := by
  rw [ByteArray.data_extract, Array.toList_extract]
theorem ext_ofL (s : ByteArray) (a b : Nat) : s.extract a b = ofL ((s.data.toList.drop a).take (b - a)) := by
  rw [← ext_data, ofL_of]
theorem ofL_ext (l : List UInt8) (a b : Nat) : (ofL l).extract a b = ofL ((l.drop a).take (b - a)) := by rw [ext_ofL, ofL_data]
theorem ofL_app (a b : List UInt8) : ofL a ++ ofL b = ofL (a ++ b) := by
  apply ByteArray.ext
  rw [ByteArray.data_append]
  apply Array.ext'
  rw [Array.toList_append]; rfl
theorem ofL_bt {l : List UInt8} {i : Nat} (h : i < l.length) : bt (ofL l) (i : Int) = ((l[i]).toNat : Int) := by
  rw [bt_nat _ _ (by rw [ofL_size]; exact h)]; rfl

/-! bitAt -/
theorem bit_at (x i : Nat) (hx : x < 2 ^ 62) (hi : i ≤ 63) : Go.bits .and .i64 (shr .i64 (x : Int) (i : Int)) 1 = ((x / 2 ^ i % 2 : Nat) : Int) := by
  rw [shr_nat _ _ hi]
  have e := bits_and (a := x / 2 ^ i) (b := 1) (Nat.lt_of_le_of_lt (Nat.div_le_self _ _) hx) (by decide)
  rw [Nat.and_one_is_mod] at e
  exact e
theorem shl_one {n : Nat} (h : n ≤ 61) : shl .i64 1 (n : Int) = ((2 ^ n : Nat) : Int) := by
  unfold shl
  have e : min (n : Int).toNat IntKind.i64.bits = n := by
    have : IntKind.i64.bits = 64 := rfl
    rw [this, Int.toNat_natCast]; omega
  have hlt : 2 ^ n < 2 ^ 62 := Nat.pow_lt_pow_right (by decide) (by omega)
  rw [e, Int.one_mul, IntKind.wrap_i64]
  have e2 : (2 : Int) ^ n = ((2 ^ n : Nat) : Int) := by push_cast; rfl
  rw [e2]
  generalize 2 ^ n = q at hlt ⊢
  omega

/-! codeW -/
/-- The words as lists of bytes. -/
def dW (ws : List ByteArray) : List (List UInt8) := ws.map (·.data.toList)
theorem krF_sum : ∀ (ws : List ByteArray) (a : Nat), (∀ w ∈ ws, w.size ≤ 12) → a + 4096 * ws.length ≤ 1099511627776 → krF ws (a : Int) = ((a + KK 12 (dW ws) : Nat) : Int)
  | [], a, _, _ => by simp [krF, dW, KK]
  | w :: r, a, hs, hl => by
    have h1 := hs w List.mem_cons_self
    rw [List.length_cons] at hl
    have h2 : 2 ^ (12 - w.size) ≤ 2 ^ 12 := Nat.pow_le_pow_right (by decide) (by omega)
    have e1 : (12 - (w.size : Int)) = ((12 - w.size : Nat) : Int) := by omega
    have e2 : KK 12 (dW (w :: r)) = 2 ^ (12 - w.size) + KK 12 (dW r) := by
      unfold KK dW
      rw [List.map_cons, List.map_cons, List.sum_cons, size_data]
    unfold krF
    rw [e1, shl_one (by omega), e2]
    have h3 : (2 : Nat) ^ 12 = 4096 := by decide
    generalize hx : 2 ^ (12 - w.size) = x at h2 ⊢
    rw [h3] at h2
    have e3 : wrap64 ((a : Int) + (x : Int)) = ((a + x : Nat) : Int) := w64_add a x (by omega)
    rw [e3, krF_sum r (a + x) (fun v hv => hs v (List.mem_cons_of_mem _ hv)) (by omega), Nat.add_assoc]
theorem code_nodup {ws : List ByteArray} (h : codeB ws = true) : ws.Nodup := by
  unfold List.Nodup
  rw [List.pairwise_iff_getElem]
  intro i j hi hj hij e
  have h1 := (codeB_at h hj).2.2
  rw [sn_get hj] at h1
  refine h1 ?_
  rw [← e]
  exact List.mem_take_iff_getElem.2 ⟨i, by omega, rfl⟩
theorem isPre_iff (p s : ByteArray) : isPre p s = true ↔ ∃ v, s.data.toList = p.data.toList ++ v := by
  unfold isPre
  rw [Bool.and_eq_true, decide_eq_true_iff, beq_iff_eq, Lib.toList_data, Lib.toList_data, ext_data, List.drop_zero, Nat.sub_zero]
  constructor
  · rintro ⟨h1, h2⟩
    exact ⟨s.data.toList.drop p.size, by rw [← h2, List.take_append_drop]⟩
  · rintro ⟨v, e⟩
    have h1 : p.data.toList.length = p.size := size_data p
    have h2 : s.data.toList.length = s.size := size_data s
    rw [e, List.length_append] at h2
    refine ⟨by omega, ?_⟩
    rw [e, ← h1, List.take_left']; rfl
theorem dW_mem {ws : List ByteArray} {l : List UInt8} : l ∈ dW ws ↔ ofL l ∈ ws := by
  unfold dW
  rw [List.mem_map]
  constructor
  · rintro ⟨x, hx, rfl⟩; rw [ofL_of]; exact hx
  · intro h; exact ⟨ofL l, h, ofL_data l⟩
theorem dW_mem' {ws : List ByteArray} {x : ByteArray} : x.data.toList ∈ dW ws ↔ x ∈ ws := by rw [dW_mem, ofL_of]
theorem code_word {ws : List ByteArray} (h : codeB ws = true) {w : ByteArray} (hw : w ∈ ws) : (1 ≤ w.size ∧ w.size ≤ 12) ∧ ∀ c ∈ w.data.toList, c = 48 ∨ c = 49 := by
  obtain ⟨i, hi, rfl⟩ := List.mem_iff_getElem.1 hw
  have h1 := codeB_at h hi
  rw [sn_get hi] at h1
  refine ⟨h1.1, fun c hc => ?_⟩
  have h2 := List.all_eq_true.1 h1.2.1 c hc
  unfold isBitB at h2
  rw [Bool.or_eq_true, beq_iff_eq, beq_iff_eq] at h2
  exact h2
theorem code_full {ws : List ByteArray} (h : codeB ws = true) (hc : complB ws = true) : PF 12 (dW ws) ∧ KK 12 (dW ws) = 2 ^ 12 := by
  have hl := codeB_len h
  unfold complB at hc
  rw [Bool.and_eq_true] at hc
  obtain ⟨hp, hk⟩ := hc
  have hk := of_decide_eq_true hk
  have e := krF_sum ws 0 (fun w hw => (code_word h hw).1.2) (by omega)
  rw [show ((0 : Nat) : Int) = 0 from rfl, hk, Nat.zero_add] at e
  refine ⟨⟨?_, ?_, ?_, ?_⟩, by have h3 : (2 : Nat) ^ 12 = 4096 := by decide
                               omega⟩
  · exact List.Pairwise.map _ (fun a b hab => fun e => hab (ByteArray.ext (Array.ext' e))) (code_nodup h)
  · intro u hu v huv
    obtain ⟨i, hi, e1⟩ := List.mem_iff_getElem.1 (dW_mem.1 hu)
    obtain ⟨k, hk', e2⟩ := List.mem_iff_getElem.1 (dW_mem.1 huv)
    unfold prefR at hp
    have h1 := List.all_eq_true.1 hp i (List.mem_range'_1.2 ⟨Nat.zero_le _, by omega⟩)
    unfold preR at h1
    have h2 := List.all_eq_true.1 h1 k (List.mem_range'_1.2 ⟨Nat.zero_le _, by omega⟩)
    rw [sn_get hi, sn_get hk', e1, e2] at h2
    rw [Bool.or_eq_true] at h2
    rcases h2 with h2 | h2
    · have h2 := of_decide_eq_true h2
      subst h2
      rw [e1] at e2
      have e3 := ofL_inj e2
      have e4 : u ++ [] = u ++ v := by rw [List.append_nil]; exact e3
      exact (List.append_cancel_left e4).symm
    · have h3 : isPre (ofL u) (ofL (u ++ v)) = true := (isPre_iff _ _).2 ⟨v, by rw [ofL_data, ofL_data]⟩
      rw [h3] at h2
      exact absurd h2 (by decide)
  · intro w hw
    have h1 := (code_word h (dW_mem.1 hw)).2
    rw [ofL_data] at h1
    exact h1
  · intro w hw
    have h1 := (code_word h (dW_mem.1 hw)).1.2
    rw [ofL_size] at h1
    exact h1

/-! read05 -/
/-- What a reader has read of a word behind one more bit. -/
def rdB (ws : List ByteArray) (r b : ByteArray) : ByteArray := if r ++ b ∈ ws then (⟨#[]⟩ : ByteArray) else r ++ b
theorem rdB_size (ws : List ByteArray) (r b : ByteArray) : (rdB ws r b).size ≤ r.size + b.size := by
  unfold rdB
  by_cases h : r ++ b ∈ ws
  · rw [if_pos h]; exact Nat.zero_le _
  · rw [if_neg h, ByteArray.size_append]; exact Nat.le_refl _
/-- One byte of a text. -/
def sb (s : ByteArray) (n : Nat) : ByteArray := s.extract n (n + 1)
theorem sb_size {s : ByteArray} {n : Nat} (h : n < s.size) : (sb s n).size = 1 := by
  unfold sb
  rw [ByteArray.size_extract]; omega
/-- What a reader has read of a word behind some bits. -/
def rdN (ws : List ByteArray) (s : ByteArray) : Nat → ByteArray
  | 0 => ⟨#[]⟩
  | n + 1 => rdB ws (rdN ws s n) (sb s n)
theorem rdN_size (ws : List ByteArray) (s : ByteArray) : ∀ n, n ≤ s.size → (rdN ws s n).size ≤ n
  | 0, _ => Nat.le_refl _
  | n + 1, h => by
    have h1 := rdN_size ws s n (by omega)
    have h2 := rdB_size ws (rdN ws s n) (sb s n)
    rw [sb_size (show n < s.size by omega)] at h2
    show (rdB ws (rdN ws s n) (sb s n)).size ≤ n + 1
    omega
/-- Whether a word ends behind some bits. -/
def endAt (ws : List ByteArray) (s : ByteArray) (b : Nat) : Bool := (rdN ws s b).toList == ([] : List UInt8)
/-- Where words end. -/
def ownL (ws : List ByteArray) (s : ByteArray) (n d : Nat) : List Int := ((List.range' n d).filter (endAt ws s)).map (fun b : Nat => (b : Int))
theorem ownL_succ (ws : List ByteArray) (s : ByteArray) (n d : Nat) : ownL ws s n (d + 1) = if endAt ws s n = true then (n : Int) :: ownL ws s (n + 1) d else ownL ws s (n + 1) d := by
  unfold ownL
  rw [show List.range' n (d + 1) = n :: List.range' (n + 1) d from rfl, List.filter_cons]
  by_cases h : endAt ws s n = true
  · rw [if_pos h, if_pos h]; rfl
  · rw [if_neg h, if_neg h]

/-! rdrs -/
/-- The proper beginnings of a text, and of all words. -/
def begs (w : ByteArray) (j d : Nat) : List ByteArray := (List.range' j d).map (w.extract 0 ·)
def allP : List ByteArray → List ByteArray
  | [] => []
  | w :: r => begs w 0 w.size ++ allP r
theorem begs_succ (w : ByteArray) (j d : Nat) : begs w j (d + 1) = w.extract 0 j :: begs w (j + 1) d := rfl
theorem begs_length (w : ByteArray) (j d : Nat) : (begs w j d).length = d := by unfold begs; rw [List.length_map, List.length_range']
theorem allP_length : ∀ ws : List ByteArray, (allP ws).length = totS ws
  | [] => rfl
  | w :: r => by unfold allP totS; rw [List.length_append, begs_length, allP_length r]
theorem allP_mem : ∀ (ws : List ByteArray) (x : ByteArray), x ∈ allP ws ↔ PP (dW ws) x.data.toList
  | [], x => by
    unfold allP PP dW
    simp
  | w :: r, x => by
    have ih := allP_mem r x
    unfold allP
    rw [List.mem_append, ih]
    have e : x ∈ begs w 0 w.size ↔ ∃ c s, x.data.toList ++ c :: s = w.data.toList := by
      unfold begs
      rw [List.mem_map]
      constructor
      · rintro ⟨j, hj, rfl⟩
        have hj := (List.mem_range'_1.1 hj).2
        rw [Nat.zero_add] at hj
        rw [ext_data, List.drop_zero, Nat.sub_zero]
        have h1 : w.data.toList.length = w.size := size_data w
        refine ⟨w.data.toList[j]'(by omega), w.data.toList.drop (j + 1), ?_⟩
        rw [← List.drop_eq_getElem_cons, List.take_append_drop]
      · rintro ⟨c, s, e⟩
        have h1 : w.data.toList.length = w.size := size_data w
        have h2 : x.data.toList.length = x.size := size_data x
        have h3 := congrArg List.length e
        rw [List.length_append, List.length_cons] at h3
        refine ⟨x.size, List.mem_range'_1.2 ⟨Nat.zero_le _, by omega⟩, ?_⟩
        rw [ext_ofL, List.drop_zero, Nat.sub_zero, ← e, ← h2, List.take_left', ofL_of]
        rfl
    rw [e]
    unfold PP dW
    simp only [List.map_cons, List.mem_cons]
    constructor
    · rintro (⟨c, s, h⟩ | ⟨c, s, h⟩)
      · exact ⟨c, s, .inl h⟩
      · exact ⟨c, s, .inr h⟩
    · rintro ⟨c, s, h | h⟩
      · exact .inl ⟨c, s, h⟩
      · exact .inr ⟨c, s, h⟩
/-- Each text once, in the order of the first ones. -/
def insS (R : List ByteArray) (x : ByteArray) : List ByteArray := if x ∈ R then R else R ++ [x]
def onceS (l : List ByteArray) (R : List ByteArray) : List ByteArray := l.foldl insS R
theorem onceS_mem : ∀ (l R : List ByteArray) (x : ByteArray), x ∈ onceS l R ↔ x ∈ R ∨ x ∈ l
  | [], R, x => by simp [onceS]
  | y :: l, R, x => by
    show x ∈ onceS l (insS R y) ↔ _
    rw [onceS_mem l, List.mem_cons]
    unfold insS
    by_cases h : y ∈ R
    · rw [if_pos h]
      constructor
      · rintro (h1 | h1)
        · exact .inl h1
        · exact .inr (.inr h1)
      · rintro (h1 | rfl | h1)
        · exact .inl h1
        · exact .inl h
        · exact .inr h1
    · rw [if_neg h, List.mem_append, List.mem_singleton]
      constructor
      · rintro ((h1 | h1) | h1)
        · exact .inl h1
        · exact .inr (.inl h1)
        · exact .inr (.inr h1)
      · rintro (h1 | h1 | h1)
        · exact .inl (.inl h1)
        · exact .inl (.inr h1)
        · exact .inr h1
theorem onceS_nodup : ∀ (l R : List ByteArray), R.Nodup → (onceS l R).Nodup
  | [], R, h => h
  | y :: l, R, h => by
    show (onceS l (insS R y)).Nodup
    refine onceS_nodup l _ ?_
    unfold insS
    by_cases hm : y ∈ R
    · rw [if_pos hm]; exact h
    · rw [if_neg hm]
      refine List.pairwise_append.2 ⟨h, List.pairwise_singleton _ _, fun a ha b hb => ?_⟩
      rw [List.mem_singleton] at hb
      subst hb
      exact fun e => hm (e ▸ ha)
theorem onceS_length : ∀ (l R : List ByteArray), (onceS l R).length ≤ R.length + l.length
  | [], R => Nat.le_refl _
  | y :: l, R => by
    show (onceS l (insS R y)).length ≤ _
    have h1 := onceS_length l (insS R y)
    have h2 : (insS R y).length ≤ R.length + 1 := by
      unfold insS
      by_cases hm : y ∈ R
      · rw [if_pos hm]; omega
      · rw [if_neg hm, List.length_append, List.length_singleton]; omega
    rw [List.length_cons]; omega
/-- The readers of a code. -/
def rdrs (ws : List ByteArray) : List ByteArray := onceS (allP ws) []
theorem rdrs_mem (ws : List ByteArray) (x : ByteArray) : x ∈ rdrs ws ↔ PP (dW ws) x.data.toList := by
  unfold rdrs
  rw [onceS_mem, allP_mem]
  simp
theorem rdrs_nodup (ws : List ByteArray) : (rdrs ws).Nodup := onceS_nodup _ _ List.nodup_nil
theorem rdrs_size {ws : List ByteArray} (h : codeB ws = true) {x : ByteArray} (hx : x ∈ rdrs ws) : x.size ≤ 12 ∧ ∀ c ∈ x.data.toList, c = 48 ∨ c = 49 := by
  obtain ⟨c, s, hw⟩ := (rdrs_mem ws x).1 hx
  have h1 := code_word h (dW_mem.1 hw)
  rw [ofL_size, ofL_data, List.length_append, size_data] at h1
  exact ⟨by omega, fun c hc => h1.2 c (List.mem_append_left _ hc)⟩
theorem rdrs_few {ws : List ByteArray} (h : codeB ws = true) (hc : complB ws = true) : (rdrs ws).length + 1 ≤ ws.length := by
  obtain ⟨h1, h2⟩ := code_full h hc
  have h3 := PP_few 12 (dW ws) (dW (rdrs ws)) h1 h2 (List.Pairwise.map _ (fun a b hab => fun e => hab (ByteArray.ext (Array.ext' e))) (rdrs_nodup ws)) (fun p hp => by
    have := (rdrs_mem ws (ofL p)).1 (dW_mem.1 hp)
    rw [ofL_data] at this
    exact this)
  unfold dW at h3
  rw [List.length_map, List.length_map] at h3
  exact h3
theorem rdrs_nil {ws : List ByteArray} (h : codeB ws = true) : (⟨#[]⟩ : ByteArray) ∈ rdrs ws := by
  have hl := codeB_len h
  obtain ⟨w, r, rfl⟩ : ∃ w r, ws = w :: r := by cases ws with | nil => simp at hl | cons w r => exact ⟨w, r, rfl⟩
  rw [rdrs_mem]
  have h1 := (code_word h (w := w) List.mem_cons_self).1
  have h2 : w.data.toList.length = w.size := size_data w
  cases hd : w.data.toList with
  | nil => rw [hd] at h2; simp at h2; omega
  | cons c s => exact ⟨c, s, by rw [← hd]; exact dW_mem'.2 List.mem_cons_self⟩
theorem rdrs_next {ws : List ByteArray} (h : codeB ws = true) (hc : complB ws = true) {x b : ByteArray} (hx : x ∈ rdrs ws) (hb : b = ⟨#[48]⟩ ∨ b = ⟨#[49]⟩) : rdB ws x b ∈ rdrs ws := by
  unfold rdB
  by_cases hm : x ++ b ∈ ws
  · rw [if_pos hm]; exact rdrs_nil h
  · rw [if_neg hm]
    obtain ⟨h1, h2⟩ := code_full h hc
    obtain ⟨c, hcb, hc2⟩ : ∃ c : UInt8, b.data.toList = [c] ∧ (c = 48 ∨ c = 49) := by
      rcases hb with rfl | rfl
      · exact ⟨48, rfl, .inl rfl⟩
      · exact ⟨49, rfl, .inr rfl⟩
    have e : (x ++ b).data.toList = x.data.toList ++ [c] := by rw [ByteArray.data_append, Array.toList_append, hcb]
    rw [rdrs_mem, e]
    rcases PP_next 12 (dW ws) h1 h2 x.data.toList c ((rdrs_mem ws x).1 hx) hc2 with h3 | h3
    · rw [← e, dW_mem'] at h3; exact absurd h3 hm
    · exact h3
theorem rdrs_le (ws : List ByteArray) : (rdrs ws).length ≤ totS ws := by
  have := onceS_length (allP ws) []
  rw [allP_length] at this
  unfold rdrs; simpa using this

/-! csT -/
/-- Sorted, each one once. -/
def csL (L : List (List UInt8)) : List (List UInt8) := Lib.compact (L.mergeSort fun x y => decide (x ≤ y))
theorem cmpUp (d : Array (List UInt8)) (hs : ∀ i j, i < j → j < d.size → d[i]! ≤ d[j]!) : ∀ m, m ≤ d.size →
    (∀ x, x ∈ Lib.compactUpTo d m ↔ ∃ j, j < m ∧ d[j]! = x) ∧ (Lib.compactUpTo d m).Pairwise (· < ·)
  | 0, _ => ⟨fun x => by simp [Lib.compactUpTo], by simp [Lib.compactUpTo]⟩
  | m + 1, h => by
    obtain ⟨i1, i2⟩ := cmpUp d hs m (by omega)
    rw [Lib.compactUpTo_succ]
    by_cases hk : Lib.keeps d m = true
    · rw [if_pos hk]
      refine ⟨fun x => ?_, ?_⟩
      · rw [List.mem_append, i1, List.mem_singleton]
        constructor
        · rintro (⟨j, hj, e⟩ | e)
          · exact ⟨j, by omega, e⟩
          · exact ⟨m, by omega, e.symm⟩
        · rintro ⟨j, hj, e⟩
          by_cases hjm : j = m
          · subst hjm; exact .inr e.symm
          · exact .inl ⟨j, by omega, e⟩
      · rw [List.pairwise_append]
        refine ⟨i2, List.pairwise_singleton _ _, fun x hx y hy => ?_⟩
        rw [List.mem_singleton] at hy
        subst hy
        obtain ⟨j, hj, e⟩ := (i1 x).1 hx
        have hne : d[m]! ≠ d[m - 1]! := by
          unfold Lib.keeps at hk
          rcases of_decide_eq_true hk with h0 | h0
          · omega
          · exact h0
        have h1 : d[j]! ≤ d[m - 1]! := by
          by_cases hjm : j = m - 1
          · rw [hjm]; exact List.le_refl _
          · exact hs j (m - 1) (by omega) (by omega)
        have h2 := hs (m - 1) m (by omega) (by omega)
        have h3 : d[m - 1]! < d[m]! := by
          rcases Decidable.em (d[m - 1]! < d[m]!) with h | h
          · exact h
          · exact absurd (List.le_antisymm h h2) hne
        rw [← e]
        exact List.lt_of_le_of_lt h1 h3
    · rw [if_neg hk, List.append_nil]
      refine ⟨fun x => ?_, i2⟩
      rw [i1]
      constructor
      · rintro ⟨j, hj, e⟩; exact ⟨j, by omega, e⟩
      · rintro ⟨j, hj, e⟩
        by_cases hjm : j = m
        · subst hjm
          have hk2 : ¬ (j = 0 ∨ d[j]! ≠ d[j - 1]!) := fun h => hk (decide_eq_true h)
          have h0 : j ≠ 0 := fun h => hk2 (.inl h)
          have h1 : d[j]! = d[j - 1]! := Decidable.byContradiction fun h => hk2 (.inr h)
          exact ⟨j - 1, by omega, by rw [← h1]; exact e⟩
        · exact ⟨j, by omega, e⟩
theorem csL_both (L : List (List UInt8)) : (∀ x, x ∈ csL L ↔ x ∈ L) ∧ (csL L).Pairwise (· < ·) := by
  have hs : (L.mergeSort fun x y => decide (x ≤ y)).Pairwise (fun x y => decide (x ≤ y) = true) := List.pairwise_mergeSort (le := fun x y : List UInt8 => decide (x ≤ y)) (fun a b c h1 h2 => decide_eq_true (List.le_trans (of_decide_eq_true h1) (of_decide_eq_true h2))) (fun a b => by rcases List.le_total a b with h | h <;> simp [h]) L
  have hp : (L.mergeSort fun x y => decide (x ≤ y)).Perm L := List.mergeSort_perm L _
  unfold csL Lib.compact
  generalize (L.mergeSort fun x y => decide (x ≤ y)) = S at hs hp
  have hg : ∀ i, i < S.length → S.toArray[i]! = S.getD i [] := fun i hi => by simp [hi]
  obtain ⟨h1, h2⟩ := cmpUp S.toArray (fun i j hij hj => by
    have hj' : j < S.length := by simpa using hj
    have h := (List.pairwise_iff_getElem.1 hs) i j (by omega) hj' hij
    have h := of_decide_eq_true h
    simpa [hj', show i < S.length by omega] using h) S.length (by simp)
  refine ⟨fun x => ?_, h2⟩
  rw [h1, ← hp.mem_iff, List.mem_iff_getElem]
  constructor
  · rintro ⟨j, hj, e⟩; exact ⟨j, hj, by simpa [hj] using e⟩
  · rintro ⟨j, hj, e⟩; exact ⟨j, hj, by simpa [hj] using e⟩
/-- Rising lists of the same texts are the same. -/
theorem rise_eq : ∀ (a b : List (List UInt8)), a.Pairwise (· < ·) → b.Pairwise (· < ·) → (∀ x, x ∈ a ↔ x ∈ b) → a = b
  | [], [], _, _, _ => rfl
  | [], y :: b, _, _, h => absurd ((h y).2 List.mem_cons_self) (by simp)
  | x :: a, [], _, _, h => absurd ((h x).1 List.mem_cons_self) (by simp)
  | x :: a, y :: b, ha, hb, h => by
    rw [List.pairwise_cons] at ha hb
    have e : x = y := by
      rcases List.mem_cons.1 ((h x).1 List.mem_cons_self) with h1 | h1
      · exact h1
      rcases List.mem_cons.1 ((h y).2 List.mem_cons_self) with h2 | h2
      · exact h2.symm
      exact absurd (List.lt_trans (hb.1 x h1) (ha.1 y h2)) (List.lt_irrefl _)
    subst e
    rw [rise_eq a b ha.2 hb.2 (fun z => ?_)]
    have hz := h z
    rw [List.mem_cons, List.mem_cons] at hz
    constructor
    · intro hm
      rcases hz.1 (.inr hm) with h1 | h1
      · subst h1; exact absurd (ha.1 _ hm) (List.lt_irrefl _)
      · exact h1
    · intro hm
      rcases hz.2 (.inr hm) with h1 | h1
      · subst h1; exact absurd (hb.1 _ hm) (List.lt_irrefl _)
      · exact h1
/-- Texts sorted, each one once. -/
def cs (xs : List ByteArray) : List ByteArray := compactT (sortT xs)
theorem cs_eq (xs : List ByteArray) : cs xs = (csL (xs.map (·.data.toList))).map ofL := by
  unfold cs compactT sortT csL
  rw [List.map_map]
  have e : ((fun x : ByteArray => x.data.toList) ∘ fun l : List UInt8 => (⟨l.toArray⟩ : ByteArray)) = id := by funext l; rfl
  rw [e, List.map_id]
  rfl
theorem data_ofL (xs : List (List UInt8)) : (xs.map ofL).map (·.data.toList) = xs := by
  rw [List.map_map]
  have e : ((fun x : ByteArray => x.data.toList) ∘ ofL) = id := by funext l; rfl
  rw [e, List.map_id]
theorem cs_mem (xs : List ByteArray) (x : ByteArray) : x ∈ cs xs ↔ x ∈ xs := by
  rw [cs_eq, List.mem_map]
  constructor
  · rintro ⟨l, hl, rfl⟩
    rw [(csL_both _).1, List.mem_map] at hl
    obtain ⟨y, hy, e⟩ := hl
    rw [← e, ofL_of]; exact hy
  · intro h
    exact ⟨x.data.toList, ((csL_both _).1 _).2 (List.mem_map.2 ⟨x, h, rfl⟩), ofL_of x⟩
theorem cs_congr {xs ys : List ByteArray} (h : ∀ x, x ∈ xs ↔ x ∈ ys) : cs xs = cs ys := by
  rw [cs_eq, cs_eq]
  congr 1
  refine rise_eq _ _ (csL_both _).2 (csL_both _).2 (fun l => ?_)
  rw [(csL_both _).1, (csL_both _).1, List.mem_map, List.mem_map]
  constructor
  · rintro ⟨x, hx, e⟩; exact ⟨x, (h x).1 hx, e⟩
  · rintro ⟨x, hx, e⟩; exact ⟨x, (h x).2 hx, e⟩
theorem cs_nodup (xs : List ByteArray) : (cs xs).Nodup := by
  rw [cs_eq]
  have h := (csL_both (xs.map (·.data.toList))).2
  have h2 : (csL (xs.map (·.data.toList))).Nodup := h.imp fun hab => fun e => by subst e; exact absurd hab (List.lt_irrefl _)
  exact List.Pairwise.map _ (fun a b hab => fun e => hab (ofL_inj e)) h2
theorem sort_eq (xs : List ByteArray) (h : xs.length ≤ 1099511627776) : slices_Sort_string_string.f xs = some (sortT xs) := by
  unfold slices_Sort_string_string.f
  rw [if_pos (by omega)]
theorem sortT_length (xs : List ByteArray) : (sortT xs).length = xs.length := by
  unfold sortT
  rw [List.length_map, List.length_mergeSort, List.length_map]
theorem compact_eq (xs : List ByteArray) (h : xs.length ≤ 1099511627776) : slices_Compact_string_string.f xs = some (compactT xs) := by
  unfold slices_Compact_string_string.f
  rw [if_pos (by omega)]
/-- Texts of bits joined by commas tell them. -/
theorem join_inj : ∀ (a b : List (List UInt8)), a ≠ [] → b ≠ [] → (∀ x ∈ a, ∀ c ∈ x, c = 48 ∨ c = 49) → (∀ x ∈ b, ∀ c ∈ x, c = 48 ∨ c = 49) → Lib.join a [44] = Lib.join b [44] → a = b := by
  have key : ∀ (x y s t : List UInt8), (∀ c ∈ x, c = 48 ∨ c = 49) → (∀ c ∈ y, c = 48 ∨ c = 49) → (s = [] ∨ ∃ s', s = 44 :: s') → (t = [] ∨ ∃ t', t = 44 :: t') → x ++ s = y ++ t → x = y ∧ s = t := by
    intro x
    induction x with
    | nil =>
      intro y s t hx hy hs ht e
      cases y with
      | nil => exact ⟨rfl, e⟩
      | cons c y =>
        rw [List.nil_append, List.cons_append] at e
        rcases hs with rfl | ⟨s', rfl⟩
        · exact absurd e (by simp)
        · injection e with e1 _
          rcases hy c List.mem_cons_self with h | h <;> rw [h] at e1 <;> exact absurd e1 (by decide)
    | cons c x ih =>
      intro y s t hx hy hs ht e
      cases y with
      | nil =>
        rw [List.nil_append, List.cons_append] at e
        rcases ht with rfl | ⟨t', rfl⟩
        · exact absurd e (by simp)
        · injection e with e1 _
          rcases hx c List.mem_cons_self with h | h <;> rw [h] at e1 <;> exact absurd e1 (by decide)
      | cons d y =>
        rw [List.cons_append, List.cons_append] at e
        injection e with e1 e2
        obtain ⟨h1, h2⟩ := ih y s t (fun z hz => hx z (List.mem_cons_of_mem _ hz)) (fun z hz => hy z (List.mem_cons_of_mem _ hz)) hs ht e2
        exact ⟨by rw [e1, h1], h2⟩
  have tail : ∀ r : List (List UInt8), Lib.joinTail [44] r = [] ∨ ∃ s', Lib.joinTail [44] r = 44 :: s' := by
    intro r
    cases r with
    | nil => exact .inl rfl
    | cons y r => exact .inr ⟨y ++ Lib.joinTail [44] r, by unfold Lib.joinTail; simp⟩
  have tails : ∀ (a b : List (List UInt8)), (∀ x ∈ a, ∀ c ∈ x, c = 48 ∨ c = 49) → (∀ x ∈ b, ∀ c ∈ x, c = 48 ∨ c = 49) → Lib.joinTail [44] a = Lib.joinTail [44] b → a = b := by
    intro a
    induction a with
    | nil =>
      intro b _ _ e
      cases b with
      | nil => rfl
      | cons y b => exact absurd e (by unfold Lib.joinTail; simp)
    | cons x a ih =>
      intro b ha hb e
      cases b with
      | nil => exact absurd e (by unfold Lib.joinTail; simp)
      | cons y b =>
        have e2 : ∀ (z : List UInt8) (r : List (List UInt8)), Lib.joinTail [44] (z :: r) = 44 :: (z ++ Lib.joinTail [44] r) := fun z r => by unfold Lib.joinTail; simp
        rw [e2, e2] at e
        injection e with _ e
        obtain ⟨h1, h2⟩ := key x y _ _ (ha x List.mem_cons_self) (hb y List.mem_cons_self) (tail a) (tail b) e
        rw [h1, ih b (fun z hz => ha z (List.mem_cons_of_mem _ hz)) (fun z hz => hb z (List.mem_cons_of_mem _ hz)) h2]
  intro a b hna hnb ha hb e
  cases a with
  | nil => exact absurd rfl hna
  | cons x a =>
    cases b with
    | nil => exact absurd rfl hnb
    | cons y b =>
      rw [Lib.join_cons, Lib.join_cons] at e
      obtain ⟨h1, h2⟩ := key x y _ _ (ha x List.mem_cons_self) (hb y List.mem_cons_self) (tail a) (tail b) e
      rw [h1, tails a b (fun z hz => ha z (List.mem_cons_of_mem _ hz)) (fun z hz => hb z (List.mem_cons_of_mem _ hz)) h2]

/-! idxS -/
/-- The place of a text in a list from a number on, or -1. -/
def idxS : List ByteArray → Nat → ByteArray → Int
  | [], _, _ => -1
  | y :: r, n, x => if y = x then (n : Int) else idxS r (n + 1) x
theorem idxS_pos : ∀ (r : List ByteArray) (n : Nat) (x : ByteArray), 0 ≤ idxS r n x ↔ x ∈ r
  | [], n, x => by simp [idxS]
  | y :: r, n, x => by
    unfold idxS
    by_cases h : y = x
    · rw [if_pos h]
      exact ⟨fun _ => by rw [h]; exact List.mem_cons_self, fun _ => by omega⟩
    · rw [if_neg h, idxS_pos r (n + 1) x, List.mem_cons]
      exact ⟨fun h2 => .inr h2, fun h2 => by rcases h2 with h2 | h2; exact absurd h2.symm h; exact h2⟩
theorem l03Index_l0 (xs : List ByteArray) (x : ByteArray) (hn : xs.length ≤ 1099511627776) : ∀ d n, n + d = xs.length → Ev (fun k => spec_l03Index.l0 k xs x (n : Int)) (idxS (xs.drop n) n x) := by
  intro d
  induction d with
  | zero =>
    intro n h
    have c1 : ¬ (n : Int) < (xs.length : Int) := by omega
    rw [List.drop_eq_nil_of_le (by omega)]
    apply Ev.succ
    simp only [spec_l03Index.l0]
    exact Ev.cond (fun h' => absurd h' c1) (fun _ => Ev.now _)
  | succ d ih =>
    intro n h
    have hl : n < xs.length := by omega
    have c1 : (n : Int) < (xs.length : Int) := by omega
    have c2 : (0 : Int) ≤ (n : Int) := by omega
    have h3 := ih (n + 1) (by omega)
    rw [drop_sn hl]
    unfold idxS
    apply Ev.succ
    simp only [spec_l03Index.l0, sr_nat, w64_succ (show n < 9223372036854775807 by omega)]
    refine Ev.cond (fun _ => ?_) (fun h' => absurd c1 h')
    refine Ev.cond (fun _ => ?_) (fun h' => absurd c2 h')
    by_cases hc : sn xs n = x
    · rw [if_pos hc]
      exact Ev.cond (fun _ => Ev.now _) (fun h' => absurd (by rw [hc]) h')
    · rw [if_neg hc]
      exact Ev.cond (fun h' => absurd (bytes_ext h') hc) (fun _ => h3)
theorem l03Index_ev (xs : List ByteArray) (x : ByteArray) (hn : xs.length ≤ 1099511627776) : Ev (fun k => spec_l03Index.f k xs x) (idxS xs 0 x) := l03Index_l0 xs x hn xs.length 0 (by omega)
theorem sIndex_l0 (xs : List ByteArray) (x : ByteArray) (hn : xs.length ≤ 1099511627776) : ∀ d n, n + d = xs.length → Ev (fun k => slices_Index_string_string.l0 k xs x (xs.length : Int) (n : Int)) (idxS (xs.drop n) n x) := by
  intro d
  induction d with
  | zero =>
    intro n h
    have c1 : ¬ (n : Int) < (xs.length : Int) := by omega
    rw [List.drop_eq_nil_of_le (by omega)]
    apply Ev.succ
    simp only [slices_Index_string_string.l0]
    exact Ev.cond (fun h' => absurd h' c1) (fun _ => Ev.now _)
  | succ d ih =>
    intro n h
    have hl : n < xs.length := by omega
    have c1 : (n : Int) < (xs.length : Int) := by omega
    have c2 : (0 : Int) ≤ (n : Int) := by omega
    have h3 := ih (n + 1) (by omega)
    rw [drop_sn hl]
    unfold idxS
    apply Ev.succ
    simp only [slices_Index_string_string.l0, sr_nat, w64_succ (show n < 9223372036854775807 by omega)]
    refine Ev.cond (fun _ => ?_) (fun h' => absurd c1 h')
    refine Ev.cond (fun _ => ?_) (fun h' => absurd c2 h')
    refine Ev.cond (fun _ => ?_) (fun h' => absurd c1 h')
    by_cases hc : sn xs n = x
    · rw [if_pos hc]
      exact Ev.cond (fun _ => Ev.now _) (fun h' => absurd (by rw [hc]) h')
    · rw [if_neg hc]
      exact Ev.cond (fun h' => absurd (bytes_ext h').symm hc) (fun _ => h3)
theorem sIndex_ev (xs : List ByteArray) (x : ByteArray) (hn : xs.length ≤ 1099511627776) : Ev (fun k => slices_Index_string_string.f k xs x) (idxS xs 0 x) := sIndex_l0 xs x hn xs.length 0 (by omega)
theorem sContains_ev (xs : List ByteArray) (x : ByteArray) (hn : xs.length ≤ 1099511627776) : Ev (fun k => slices_Contains_string_string.f k xs x) (decide (x ∈ xs)) := by
  unfold slices_Contains_string_string.f
  refine Ev.bind (sIndex_ev xs x hn) (Ev.const ?_)
  congr 1
  exact decide_eq_decide.2 (idxS_pos xs 0 x)

/-! syncN -/
/-- A bit's text. -/
def bsT (b : Nat) : ByteArray := if b = 1 then ⟨#[49]⟩ else ⟨#[48]⟩
theorem bsT_or (b : Nat) : bsT b = ⟨#[48]⟩ ∨ bsT b = ⟨#[49]⟩ := by
  unfold bsT
  by_cases h : b = 1
  · rw [if_pos h]; exact .inr rfl
  · rw [if_neg h]; exact .inl rfl
theorem bsT_size (b : Nat) : (bsT b).size = 1 := by rcases bsT_or b with h | h <;> rw [h] <;> rfl
theorem idxS_at : ∀ (r : List ByteArray) (n : Nat) (x : ByteArray), x ∈ r → ∃ k, k < r.length ∧ idxS r n x = ((n + k : Nat) : Int) ∧ sn r k = x
  | [], _, _, h => absurd h (by simp)
  | y :: r, n, x, h => by
    unfold idxS
    by_cases e : y = x
    · rw [if_pos e]
      exact ⟨0, by simp, rfl, by unfold sn; simpa using e⟩
    · rw [if_neg e]
      obtain ⟨k, h1, h2, h3⟩ := idxS_at r (n + 1) x (by
        rcases List.mem_cons.1 h with h | h
        · exact absurd h.symm e
        · exact h)
      refine ⟨k + 1, by rw [List.length_cons]; omega, by rw [h2]; congr 1; omega, ?_⟩
      unfold sn at h3 ⊢
      rw [List.getD_cons_succ]; exact h3
theorem sn_inj {R : List ByteArray} (hn : R.Nodup) {i j : Nat} (hi : i < R.length) (hj : j < R.length) (e : sn R i = sn R j) : i = j := by
  rw [sn_get hi, sn_get hj] at e
  unfold List.Nodup at hn
  rw [List.pairwise_iff_getElem] at hn
  rcases Nat.lt_trichotomy i j with h | h | h
  · exact absurd e (hn i j hi hj h)
  · exact h
  · exact absurd e.symm (hn j i hj hi h)
/-- The place of a text among the readers. -/
def pl (R : List ByteArray) (x : ByteArray) : Nat := (idxS R 0 x).toNat
theorem pl_at {R : List ByteArray} {x : ByteArray} (h : x ∈ R) : pl R x < R.length ∧ idxS R 0 x = (pl R x : Int) ∧ sn R (pl R x) = x := by
  obtain ⟨k, h1, h2, h3⟩ := idxS_at R 0 x h
  rw [Nat.zero_add] at h2
  have e : pl R x = k := by unfold pl; rw [h2, Int.toNat_natCast]
  rw [e]
  exact ⟨h1, h2, h3⟩
/-- The readers of a set that is a number. -/
def memb (R : List ByteArray) (m : Nat) : List ByteArray := ((List.range R.length).filter (m.testBit ·)).map (sn R)
theorem memb_mem (R : List ByteArray) (m : Nat) (x : ByteArray) : x ∈ memb R m ↔ ∃ i, i < R.length ∧ m.testBit i = true ∧ sn R i = x := by
  unfold memb
  rw [List.mem_map]
  constructor
  · rintro ⟨i, hi, e⟩
    rw [List.mem_filter, List.mem_range] at hi
    exact ⟨i, hi.1, hi.2, e⟩
  · rintro ⟨i, h1, h2, e⟩
    exact ⟨i, List.mem_filter.2 ⟨List.mem_range.2 h1, h2⟩, e⟩
/-- A set as the program has it. -/
def phi (R : List ByteArray) (m : Nat) : List ByteArray := cs (memb R m)
theorem phi_mem (R : List ByteArray) (m : Nat) (x : ByteArray) : x ∈ phi R m ↔ ∃ i, i < R.length ∧ m.testBit i = true ∧ sn R i = x := by
  unfold phi; rw [cs_mem, memb_mem]
theorem phi_at {R : List ByteArray} (hn : R.Nodup) (m : Nat) {i : Nat} (hi : i < R.length) : sn R i ∈ phi R m ↔ m.testBit i = true := by
  rw [phi_mem]
  constructor
  · rintro ⟨j, h1, h2, e⟩
    rw [← sn_inj hn h1 hi e]; exact h2
  · intro h; exact ⟨i, hi, h, rfl⟩
theorem phi_inj {R : List ByteArray} (hn : R.Nodup) {m m' : Nat} (h : m < 2 ^ R.length) (h' : m' < 2 ^ R.length) (e : phi R m = phi R m') : m = m' := by
  apply Nat.eq_of_testBit_eq
  intro i
  by_cases hi : i < R.length
  · have h1 := phi_at hn m hi
    have h2 := phi_at hn m' hi
    rw [e] at h1
    rw [Bool.eq_iff_iff, ← h1, ← h2]
  · have hp : 2 ^ R.length ≤ 2 ^ i := Nat.pow_le_pow_right (by decide) (by omega)
    rw [Nat.testBit_lt_two_pow (by omega), Nat.testBit_lt_two_pow (by omega)]
theorem phi_ne {R : List ByteArray} {m : Nat} (h0 : 0 < m) (h : m < 2 ^ R.length) : phi R m ≠ [] := by
  intro e
  have : m = 0 := by
    apply Nat.eq_of_testBit_eq
    intro i
    rw [Nat.zero_testBit]
    by_cases hi : i < R.length
    · rcases hb : m.testBit i with _ | _
      · rfl
      · have h2 := (phi_mem R m (sn R i)).2 ⟨i, hi, hb, rfl⟩
        rw [e] at h2
        exact absurd h2 (by simp)
    · have hp : 2 ^ R.length ≤ 2 ^ i := Nat.pow_le_pow_right (by decide) (by omega)
      rw [Nat.testBit_lt_two_pow (by omega)]
  omega
theorem compactL_le (L : List (List UInt8)) : (Lib.compact L).length ≤ L.length := Lib.compact_length_le L
theorem cs_length (xs : List ByteArray) : (cs xs).length ≤ xs.length := by
  rw [cs_eq, List.length_map]
  unfold csL
  refine Nat.le_trans (compactL_le _) ?_
  rw [List.length_mergeSort, List.length_map]; exact Nat.le_refl _
theorem phi_length (R : List ByteArray) (m : Nat) : (phi R m).length ≤ R.length := by
  unfold phi
  refine Nat.le_trans (cs_length _) ?_
  unfold memb
  rw [List.length_map]
  exact Nat.le_trans (List.length_filter_le _ _) (by rw [List.length_range]; exact Nat.le_refl _)
theorem phi_sub {R : List ByteArray} {m : Nat} {x : ByteArray} (h : x ∈ phi R m) : x ∈ R := by
  obtain ⟨i, h1, _, rfl⟩ := (phi_mem R m x).1 h
  exact sn_mem h1
/-- The set behind a bit. -/
def stpG (nx : Nat → Nat) (m : Nat) : Nat → Nat → Nat
  | 0, a => a
  | k + 1, a => if m.testBit k = true then stpG nx m k a ||| 2 ^ nx k else stpG nx m k a
def stp (ws R : List ByteArray) (b m : Nat) : Nat := stpG (fun i => pl R (rdB ws (sn R i) (bsT b))) m R.length 0
theorem stpG_bit (nx : Nat → Nat) (m : Nat) (j : Nat) : ∀ k, (stpG nx m k 0).testBit j = true ↔ ∃ i, i < k ∧ m.testBit i = true ∧ nx i = j
  | 0 => by simp [stpG]
  | k + 1 => by
    have ih := stpG_bit nx m j k
    unfold stpG
    by_cases h : m.testBit k = true
    · rw [if_pos h, Nat.testBit_or, Bool.or_eq_true, ih, Nat.testBit_two_pow, decide_eq_true_iff]
      constructor
      · rintro (⟨i, h1, h2, h3⟩ | e)
        · exact ⟨i, by omega, h2, h3⟩
        · exact ⟨k, by omega, h, e⟩
      · rintro ⟨i, h1, h2, h3⟩
        by_cases hk : i = k
        · subst hk; exact .inr h3
        · exact .inl ⟨i, by omega, h2, h3⟩
    · rw [if_neg h, ih]
      constructor
      · rintro ⟨i, h1, h2, h3⟩; exact ⟨i, by omega, h2, h3⟩
      · rintro ⟨i, h1, h2, h3⟩
        by_cases hk : i = k
        · subst hk; exact absurd h2 h
        · exact ⟨i, by omega, h2, h3⟩
theorem stpG_lt (nx : Nat → Nat) (m n : Nat) (hx : ∀ i, i < n → nx i < n) : ∀ k, k ≤ n → stpG nx m k 0 < 2 ^ n
  | 0, _ => Nat.two_pow_pos n
  | k + 1, h => by
    have ih := stpG_lt nx m n hx k (by omega)
    unfold stpG
    by_cases hb : m.testBit k = true
    · rw [if_pos hb]
      exact Nat.or_lt_two_pow ih (Nat.pow_lt_pow_right (by decide) (hx k (by omega)))
    · rw [if_neg hb]; exact ih
/-- What the sets know of the code. -/
structure Rd (ws R : List ByteArray) : Prop where
  nd : R.Nodup
  few : R.length ≤ 15
  nil : (⟨#[]⟩ : ByteArray) ∈ R
  next : ∀ x ∈ R, ∀ b, rdB ws x (bsT b) ∈ R
  bits : ∀ x ∈ R, x.size ≤ 12 ∧ ∀ c ∈ x.data.toList, c = 48 ∨ c = 49
theorem rd_of {ws : List ByteArray} (h : codeB ws = true) (hc : complB ws = true) : Rd ws (rdrs ws) where
  nd := rdrs_nodup ws
  few := by have h1 := rdrs_few h hc; have h2 := codeB_len h; omega
  nil := rdrs_nil h
  next := fun x hx b => rdrs_next h hc hx (bsT_or b)
  bits := fun x hx => rdrs_size h hx
theorem Rd.nx_lt {ws R : List ByteArray} (h : Rd ws R) (b : Nat) (i : Nat) (hi : i < R.length) : pl R (rdB ws (sn R i) (bsT b)) < R.length := (pl_at (h.next _ (sn_mem hi) b)).1
theorem Rd.stp_lt {ws R : List ByteArray} (h : Rd ws R) (b m : Nat) : stp ws R b m < 2 ^ R.length := stpG_lt _ m R.length (h.nx_lt b) R.length (Nat.le_refl _)
theorem Rd.stp_mem {ws R : List ByteArray} (h : Rd ws R) (b m : Nat) (x : ByteArray) : x ∈ phi R (stp ws R b m) ↔ ∃ r, r ∈ phi R m ∧ rdB ws r (bsT b) = x := by
  rw [phi_mem]
  unfold stp
  constructor
  · rintro ⟨j, h1, h2, rfl⟩
    obtain ⟨i, h3, h4, e⟩ := (stpG_bit _ m j R.length).1 h2
    exact ⟨sn R i, (phi_mem R m _).2 ⟨i, h3, h4, rfl⟩, by rw [← e, (pl_at (h.next _ (sn_mem h3) b)).2.2]⟩
  · rintro ⟨r, hr, rfl⟩
    obtain ⟨i, h3, h4, rfl⟩ := (phi_mem R m r).1 hr
    have h5 := pl_at (h.next _ (sn_mem h3) b)
    exact ⟨_, h5.1, (stpG_bit _ m _ R.length).2 ⟨i, h3, h4, rfl⟩, h5.2.2⟩
/-- The program's next set. -/
theorem Rd.stp_cs {ws R : List ByteArray} (h : Rd ws R) (b m : Nat) : cs ((phi R m).map fun r => rdB ws r (bsT b)) = phi R (stp ws R b m) := by
  have e : phi R (stp ws R b m) = cs (phi R (stp ws R b m)) := by
    unfold phi
    exact cs_congr fun x => (cs_mem _ x).symm
  rw [e]
  refine cs_congr fun x => ?_
  rw [h.stp_mem, List.mem_map]
theorem Rd.stp_pos {ws R : List ByteArray} (h : Rd ws R) (b : Nat) {m : Nat} (h0 : 0 < m) (hm : m < 2 ^ R.length) : 0 < stp ws R b m := by
  rcases Nat.eq_zero_or_pos (stp ws R b m) with h1 | h1
  · obtain ⟨x, l, e⟩ : ∃ x l, phi R m = x :: l := by
      have := phi_ne h0 hm
      cases hp : phi R m with
      | nil => exact absurd hp this
      | cons x l => exact ⟨x, l, rfl⟩
    have h2 := (h.stp_mem b m (rdB ws x (bsT b))).2 ⟨x, by rw [e]; exact List.mem_cons_self, rfl⟩
    rw [h1] at h2
    obtain ⟨i, _, h3, _⟩ := (phi_mem R 0 _).1 h2
    rw [Nat.zero_testBit] at h3
    exact absurd h3 (by decide)
  · exact h1
/-- The set of the reader of no bits. -/
def goalN (R : List ByteArray) : Nat := 2 ^ pl R (⟨#[]⟩ : ByteArray)
theorem Rd.goal_iff {ws R : List ByteArray} (h : Rd ws R) {m : Nat} (hm : m < 2 ^ R.length) : m = goalN R ↔ phi R m = [(⟨#[]⟩ : ByteArray)] := by
  obtain ⟨h1, h2, h3⟩ := pl_at h.nil
  have hg : goalN R < 2 ^ R.length := Nat.pow_lt_pow_right (by decide) h1
  have e : phi R (goalN R) = [(⟨#[]⟩ : ByteArray)] := by
    have e1 : phi R (goalN R) = cs [(⟨#[]⟩ : ByteArray)] := by
      unfold phi
      refine cs_congr fun x => ?_
      rw [memb_mem, List.mem_singleton]
      unfold goalN
      constructor
      · rintro ⟨i, hi, hb, rfl⟩
        rw [Nat.testBit_two_pow, decide_eq_true_iff] at hb
        rw [← hb]; exact h3
      · rintro rfl
        exact ⟨_, h1, by rw [Nat.testBit_two_pow, decide_eq_true_iff], h3⟩
    have e2 : csL [[]] = [[]] := rise_eq _ _ (csL_both _).2 (List.pairwise_singleton _ _) (csL_both _).1
    rw [e1, cs_eq]
    show (csL [[]]).map ofL = _
    rw [e2]; rfl
  constructor
  · rintro rfl; exact e
  · intro e2; exact phi_inj h.nd hm hg (by rw [e2, e])
theorem all_phi {ws : List ByteArray} : cs (allP ws) = phi (rdrs ws) (2 ^ (rdrs ws).length - 1) := by
  unfold phi
  refine cs_congr fun x => ?_
  rw [memb_mem, allP_mem, ← rdrs_mem]
  constructor
  · intro hx
    obtain ⟨h1, _, h3⟩ := pl_at hx
    exact ⟨_, h1, by rw [Nat.testBit_two_pow_sub_one, decide_eq_true_iff]; exact h1, h3⟩
  · rintro ⟨i, hi, _, rfl⟩; exact sn_mem hi
/-- The key of a set. -/
def keyN (R : List ByteArray) (m : Nat) : ByteArray := joinT (phi R m) (⟨#[44]⟩ : ByteArray)
theorem lens_le : ∀ (l : List ByteArray), (∀ x ∈ l, x.size ≤ 12) → Lib.lens (l.map (·.data.toList)) ≤ 12 * l.length
  | [], _ => Nat.le_refl _
  | x :: l, h => by
    have ih := lens_le l (fun y hy => h y (List.mem_cons_of_mem _ hy))
    have h1 := h x List.mem_cons_self
    unfold Lib.lens at ih ⊢
    simp only [List.map_cons, List.sum_cons, List.length_cons]
    rw [size_data]; omega
theorem joinT_size (l : List ByteArray) (h : ∀ x ∈ l, x.size ≤ 12) : (joinT l (⟨#[44]⟩ : ByteArray)).size ≤ 13 * l.length := by
  have e : (joinT l (⟨#[44]⟩ : ByteArray)).size = (Lib.join (l.map (·.data.toList)) [44]).length := by
    unfold joinT
    exact ofL_size _
  rw [e]
  cases l with
  | nil => exact Nat.le_refl _
  | cons x l =>
    rw [List.map_cons, Lib.join_length, ← List.map_cons (f := fun x : ByteArray => x.data.toList)]
    have h1 := lens_le (x :: l) h
    simp only [List.length_cons, List.length_map, List.length_nil] at h1 ⊢
    omega
theorem Rd.key_size {ws R : List ByteArray} (h : Rd ws R) (m : Nat) : (keyN R m).size ≤ 195 := by
  have h1 := joinT_size (phi R m) (fun x hx => (h.bits x (phi_sub hx)).1)
  have h2 := phi_length R m
  have h3 := h.few
  unfold keyN; omega
theorem Rd.key_inj {ws R : List ByteArray} (h : Rd ws R) {m m' : Nat} (h0 : 0 < m) (h0' : 0 < m') (hm : m < 2 ^ R.length) (hm' : m' < 2 ^ R.length) (e : (keyN R m).data.toList = (keyN R m').data.toList) : m = m' := by
  refine phi_inj h.nd hm hm' ?_
  have hb : ∀ m, ∀ x ∈ (phi R m).map (·.data.toList), ∀ c ∈ x, c = 48 ∨ c = 49 := fun m x hx => by
    obtain ⟨y, hy, rfl⟩ := List.mem_map.1 hx
    exact (h.bits y (phi_sub hy)).2
  have e : Lib.join ((phi R m).map fun x : ByteArray => x.data.toList) [44] = Lib.join ((phi R m').map fun x : ByteArray => x.data.toList) [44] := e
  have e2 := join_inj ((phi R m).map fun x : ByteArray => x.data.toList) ((phi R m').map fun x : ByteArray => x.data.toList) (fun e => phi_ne h0 hm (List.map_eq_nil_iff.1 e)) (fun e => phi_ne h0' hm' (List.map_eq_nil_iff.1 e)) (hb m) (hb m') e
  have e3 := congrArg (List.map ofL) e2
  rw [List.map_map, List.map_map] at e3
  have e4 : (ofL ∘ fun x : ByteArray => x.data.toList) = id := by funext x; exact ofL_of x
  rw [e4, List.map_id, List.map_id] at e3
  exact e3
theorem Rd.has_iff {ws R : List ByteArray} (h : Rd ws R) {q : List Nat} (hq : ∀ m ∈ q, 0 < m ∧ m < 2 ^ R.length) {m : Nat} (h0 : 0 < m) (hm : m < 2 ^ R.length) : hasT (q.map (keyN R)) (keyN R m) = decide (m ∈ q) := by
  rw [Bool.eq_iff_iff, decide_eq_true_iff]
  unfold hasT
  rw [List.any_eq_true]
  constructor
  · rintro ⟨y, hy, e⟩
    obtain ⟨m', hm', rfl⟩ := List.mem_map.1 hy
    rw [beq_iff_eq] at e
    rw [← h.key_inj (hq m' hm').1 h0 (hq m' hm').2 hm e]; exact hm'
  · intro hm2
    exact ⟨_, List.mem_map.2 ⟨m, hm2, rfl⟩, by simp⟩
theorem nodup_lt : ∀ (N : Nat) (l : List Nat), l.Nodup → (∀ x ∈ l, x < N) → l.length ≤ N
  | 0, l, _, h => by
    cases l with
    | nil => exact Nat.le_refl _
    | cons x l => exact absurd (h x List.mem_cons_self) (by omega)
  | N + 1, l, hn, h => by
    by_cases hm : N ∈ l
    · have hp := List.perm_cons_erase hm
      have hn2 := hp.nodup_iff.1 hn
      rw [List.nodup_cons] at hn2
      have ih := nodup_lt N (l.erase N) hn2.2 (fun x hx => by
        have h1 := h x (List.mem_of_mem_erase hx)
        have h2 : x ≠ N := fun e => hn2.1 (e ▸ hx)
        omega)
      have := hp.length_eq
      rw [List.length_cons] at this; omega
    · have ih := nodup_lt N l hn (fun x hx => by
        have h1 := h x hx
        have h2 : x ≠ N := fun e => hm (e ▸ hx)
        omega)
      omega

/-! rdrsS -/
theorem l05Readers_l1 (ws : List ByteArray) (hn : ws.length ≤ 1099511627776) (i : Nat) (hi : i < ws.length) (hw : (sn ws i).size ≤ 1099511627776) {r : List ByteArray} : ∀ d j (R : List ByteArray), j + d = (sn ws i).size → R.length + d ≤ 1099511627776 →
    Ev (fun k => spec_l05Readers.l0 k ws (onceS (begs (sn ws i) j d) R) ((i + 1 : Nat) : Int)) r → Ev (fun k => spec_l05Readers.l1 k ws R (i : Int) (j : Int)) r := by
  have w1 := w64_succ (show i < 9223372036854775807 by omega)
  have c5 : (i : Int) < (ws.length : Int) := by omega
  have c6 : (0 : Int) ≤ (i : Int) := by omega
  intro d
  induction d with
  | zero =>
    intro j R h hR hr
    have c1 : ¬ (j : Int) < ((sn ws i).size : Int) := by omega
    apply Ev.succ
    simp only [spec_l05Readers.l1, sr_nat, w1]
    refine Ev.cond (fun _ => ?_) (fun h' => absurd c6 h')
    refine Ev.cond (fun _ => ?_) (fun h' => absurd c5 h')
    exact Ev.cond (fun h' => absurd h' c1) (fun _ => hr)
  | succ d ih =>
    intro j R h hR hr
    have c1 : (j : Int) < ((sn ws i).size : Int) := by omega
    have c2 : (0 : Int) ≤ (j : Int) := by omega
    have c3 : (j : Int) ≤ ((sn ws i).size : Int) := by omega
    have c4 : R.length < 8796093022208 := by omega
    have hx := l03Index_ev R ((sn ws i).extract 0 j) (by omega)
    have h3 := ih (j + 1) (insS R ((sn ws i).extract 0 j)) (by omega) (by
      unfold insS
      by_cases hm : (sn ws i).extract 0 j ∈ R
      · rw [if_pos hm]; omega
      · rw [if_neg hm, List.length_append, List.length_singleton]; omega) hr
    apply Ev.succ
    simp only [spec_l05Readers.l1, sr_nat, Int.toNat_natCast, w64_succ (show j < 9223372036854775807 by omega)]
    refine Ev.cond (fun _ => ?_) (fun h' => absurd c6 h')
    refine Ev.cond (fun _ => ?_) (fun h' => absurd c5 h')
    refine Ev.cond (fun _ => ?_) (fun h' => absurd c1 h')
    refine Ev.cond (fun _ => ?_) (fun h' => absurd c2 h')
    refine Ev.cond (fun _ => ?_) (fun h' => absurd c3 h')
    refine Ev.bind hx ?_
    unfold insS at h3
    by_cases hm : (sn ws i).extract 0 j ∈ R
    · rw [if_pos hm] at h3
      have hp := (idxS_pos R 0 _).2 hm
      exact Ev.cond (fun h' => absurd h' (by omega)) (fun _ => h3)
    · rw [if_neg hm] at h3
      have hp : ¬ 0 ≤ idxS R 0 ((sn ws i).extract 0 j) := fun h => hm ((idxS_pos R 0 _).1 h)
      refine Ev.cond (fun _ => ?_) (fun h' => absurd (by omega) h')
      exact Ev.cond (fun _ => h3) (fun h' => absurd c4 h')
theorem l05Readers_l0 (ws : List ByteArray) (hn : ws.length ≤ 1099511627776) (hs : totS ws ≤ 1099511627776) : ∀ d n (R : List ByteArray), n + d = ws.length → R.length + totS (ws.drop n) ≤ 1099511627776 → Ev (fun k => spec_l05Readers.l0 k ws R (n : Int)) (onceS (allP (ws.drop n)) R) := by
  intro d
  induction d with
  | zero =>
    intro n R h hR
    have c1 : ¬ (n : Int) < (ws.length : Int) := by omega
    rw [List.drop_eq_nil_of_le (by omega)]
    apply Ev.succ
    simp only [spec_l05Readers.l0]
    exact Ev.cond (fun h' => absurd h' c1) (fun _ => Ev.now _)
  | succ d ih =>
    intro n R h hR
    have c1 : (n : Int) < (ws.length : Int) := by omega
    have hz := sn_size ws n
    rw [drop_sn (show n < ws.length by omega)] at hR ⊢
    unfold totS at hR
    have hl := onceS_length (begs (sn ws n) 0 (sn ws n).size) R
    rw [begs_length] at hl
    have h3 := ih (n + 1) (onceS (begs (sn ws n) 0 (sn ws n).size) R) (by omega) (by omega)
    have e : onceS (allP (sn ws n :: ws.drop (n + 1))) R = onceS (allP (ws.drop (n + 1))) (onceS (begs (sn ws n) 0 (sn ws n).size) R) := by
      unfold onceS
      rw [← List.foldl_append]; rfl
    rw [e]
    apply Ev.succ
    simp only [spec_l05Readers.l0]
    exact Ev.cond (fun _ => l05Readers_l1 ws hn n (by omega) (by omega) (sn ws n).size 0 R (by omega) (by omega) h3) (fun h' => absurd c1 h')
theorem l05Readers_ev (ws : List ByteArray) (hn : ws.length ≤ 1099511627776) (hs : totS ws ≤ 1099511627776) : Ev (fun k => spec_l05Readers.f k ws) (rdrs ws) := by
  have h := l05Readers_l0 ws hn hs ws.length 0 [] (by omega) (by rw [List.drop_zero]; simpa using hs)
  rw [List.drop_zero] at h
  exact h

/-! read05S -/
theorem l05Read_ev (ws : List ByteArray) (hn : ws.length ≤ 1099511627776) (r b : ByteArray) (hs : r.size + b.size ≤ 1099511627776) : Ev (fun k => spec_l05Read.f k ws r b) (rdB ws r b) := by
  have c1 : r.size + b.size ≤ 9223372036854775807 := by omega
  unfold spec_l05Read.f rdB
  refine Ev.cond (fun _ => ?_) (fun h' => absurd c1 h')
  refine Ev.bind (l03Index_ev ws (r ++ b) hn) ?_
  by_cases hm : r ++ b ∈ ws
  · rw [if_pos hm]
    exact Ev.cond (fun _ => Ev.now _) (fun h' => absurd ((idxS_pos _ _ _).2 hm) h')
  · rw [if_neg hm]
    exact Ev.cond (fun h' => absurd ((idxS_pos _ _ _).1 h') hm) (fun _ => Ev.now _)

/-! l01Bits -/
theorem l01Bits_l0 (s : ByteArray) (hn : s.size ≤ 1099511627776) : ∀ d n, n + d = s.size → Ev (fun k => spec_l01Bits.l0 k s (n : Int)) ((s.data.toList.drop n).all isBitB && decide (s.size ≤ 400)) := by
  intro d
  induction d with
  | zero =>
    intro n h
    apply Ev.succ
    have h1 : ¬ ((n : Int) < (s.size : Int)) := by omega
    have h2 : s.data.toList.drop n = [] := List.drop_eq_nil_of_le (by rw [size_data]; omega)
    have h3 : ((s.size : Int) ≤ 400) = (s.size ≤ 400) := propext ⟨fun h => by omega, fun h => by omega⟩
    simp only [spec_l01Bits.l0, h1, if_false, h2, h3]
    exact Ev.now _
  | succ d ih =>
    intro n h
    apply Ev.succ
    have hl : n < s.size := by omega
    have h1 : (n : Int) < (s.size : Int) := by omega
    have h2 : (0 : Int) ≤ (n : Int) := by omega
    have h3 := ih (n + 1) (by omega)
    rw [drop_data hl, List.all_cons]
    have hb := bt_nat s n hl
    have hi := isBit_iff (s[n])
    rw [← hb] at hi
    simp only [spec_l01Bits.l0, h1, h2, if_true, w64_succ (show n < 9223372036854775807 by omega)]
    by_cases c1 : bt s (n : Int) = 48
    · rw [hi.2 (.inl c1), Bool.true_and]
      simp only [c1, if_true]; exact h3
    · by_cases c2 : bt s (n : Int) = 49
      · rw [hi.2 (.inr c2), Bool.true_and]
        simp only [c2, if_true, Int.reduceEq, if_false]; exact h3
      · have hf : isBitB (s[n]) = false := by
          rw [Bool.eq_false_iff]; intro hc
          rcases hi.1 hc with hc | hc
          · exact c1 hc
          · exact c2 hc
        simp only [hf, Bool.false_and, c1, c2, if_false]
        exact Ev.now _
theorem l01Bits_ev (s : ByteArray) (hn : s.size ≤ 1099511627776) : Ev (fun k => spec_l01Bits.f k s) (bitsB s) := by
  have h := l01Bits_l0 s hn s.size 0 (by omega)
  exact h

/-! code05S -/
theorem bitsB_few {s : ByteArray} (h : s.size ≤ 400) : bitsB s = s.data.toList.all isBitB := by unfold bitsB; rw [decide_eq_true h, Bool.and_true]
theorem l05Is_l0 (ws : List ByteArray) (hn : ws.length ≤ 1000) (hs : totS ws ≤ 1099511627776) : ∀ d n, n + d = ws.length → Ev (fun k => spec_l05Is.l0 k ws (n : Int)) (codeR ws n d) := by
  intro d
  induction d with
  | zero =>
    intro n h
    have c1 : ¬ (n : Int) < (ws.length : Int) := by omega
    apply Ev.succ
    simp only [spec_l05Is.l0]
    exact Ev.cond (fun h' => absurd h' c1) (fun _ => Ev.now _)
  | succ d ih =>
    intro n h
    have c1 : (n : Int) < (ws.length : Int) := by omega
    have c2 : (0 : Int) ≤ (n : Int) := by omega
    have c4 : (n : Int) ≤ (ws.length : Int) := by omega
    have h3 := ih (n + 1) (by omega)
    have z1 := Nat.le_trans (sn_size ws n) hs
    have hi := l03Index_ev (ws.take n) (sn ws n) (by rw [List.length_take]; omega)
    rw [codeR_succ]
    unfold codeI
    apply Ev.succ
    simp only [spec_l05Is.l0, sr_nat, w64_succ (show n < 9223372036854775807 by omega), Int.toNat_natCast]
    refine Ev.cond (fun _ => ?_) (fun h' => absurd c1 h')
    refine Ev.cond (fun _ => ?_) (fun h' => absurd c2 h')
    refine Ev.cond (fun h1 => ?_) (fun h1 => ?_)
    · rw [decide_eq_false (show ¬ (1 ≤ (sn ws n).size ∧ (sn ws n).size ≤ 12) by omega)]; exact Ev.now _
    refine Ev.cond (fun h2 => ?_) (fun h2 => ?_)
    · rw [decide_eq_false (show ¬ (1 ≤ (sn ws n).size ∧ (sn ws n).size ≤ 12) by omega)]; exact Ev.now _
    rw [decide_eq_true (show 1 ≤ (sn ws n).size ∧ (sn ws n).size ≤ 12 by omega), Bool.true_and]
    refine Ev.bind (l01Bits_ev _ z1) ?_
    rw [bitsB_few (show (sn ws n).size ≤ 400 by omega)]
    rcases (sn ws n).data.toList.all isBitB with _ | _
    · exact Ev.cond (fun h' => absurd h' (by decide)) (fun _ => Ev.now _)
    refine Ev.cond (fun _ => ?_) (fun h' => absurd rfl h')
    refine Ev.cond (fun _ => ?_) (fun h' => absurd c4 h')
    refine Ev.bind hi ?_
    by_cases hm : sn ws n ∈ ws.take n
    · rw [decide_eq_true hm]
      exact Ev.cond (fun _ => Ev.now _) (fun h' => absurd ((idxS_pos _ _ _).2 hm) h')
    · rw [decide_eq_false hm]
      exact Ev.cond (fun h' => absurd ((idxS_pos _ _ _).1 h') hm) (fun _ => h3)
theorem l05Is_ev (ws : List ByteArray) (hn : ws.length ≤ 1099511627776) (hs : totS ws ≤ 1099511627776) : Ev (fun k => spec_l05Is.f k ws) (codeB ws) := by
  unfold spec_l05Is.f codeB
  by_cases h1 : 1 ≤ ws.length
  · have c1 : ¬ (ws.length : Int) < 1 := by omega
    refine Ev.cond (fun h' => absurd h' c1) (fun _ => ?_)
    apply Ev.succ
    simp only [spec_l05Is.j0]
    by_cases h2 : ws.length ≤ 16
    · rw [decide_eq_true (show 1 ≤ ws.length ∧ ws.length ≤ 16 from ⟨h1, h2⟩), Bool.true_and, decide_eq_false (show ¬ (ws.length : Int) > 16 by omega)]
      exact Ev.cond (fun h' => absurd h' (by decide)) (fun _ => l05Is_l0 ws (by omega) hs ws.length 0 (by omega))
    · rw [decide_eq_false (show ¬ (1 ≤ ws.length ∧ ws.length ≤ 16) from fun h => h2 h.2), decide_eq_true (show (ws.length : Int) > 16 by omega)]
      exact Ev.cond (fun _ => Ev.now _) (fun h' => absurd rfl h')
  · have c1 : (ws.length : Int) < 1 := by omega
    rw [decide_eq_false (show ¬ (1 ≤ ws.length ∧ ws.length ≤ 16) from fun h => h1 h.1)]
    refine Ev.cond (fun _ => ?_) (fun h' => absurd c1 h')
    apply Ev.succ
    simp only [spec_l05Is.j0]
    exact Ev.cond (fun _ => Ev.now _) (fun h' => absurd (by trivial) h')
theorem l01At_zero (s p : ByteArray) (hp : p.size ≤ 1099511627776) : spec_l01At.f s p 0 = some (isPre p s) := by
  unfold spec_l01At.f isPre
  have e : wrap64 (0 + (p.size : Int)) = (p.size : Int) := by rw [w64 (by omega) (by omega)]; omega
  simp only [e]
  by_cases h : p.size ≤ s.size
  · have c1 : (p.size : Int) ≤ (s.size : Int) := by omega
    have c2 : (0 : Int) ≤ (p.size : Int) := by omega
    rw [if_pos c1, if_pos (Int.le_refl 0), if_pos c2, decide_eq_true h, Bool.true_and]
    simp only [Int.toNat_natCast]; rfl
  · have c1 : ¬ (p.size : Int) ≤ (s.size : Int) := by omega
    rw [if_neg c1, decide_eq_false h]; rfl
theorem l05Prefix_l1 (ws : List ByteArray) (hn : ws.length ≤ 1000) (hs : totS ws ≤ 1099511627776) (i : Nat) (hi : i < ws.length) {r : Bool} (hr : Ev (fun k => spec_l05Prefix.l0 k ws ((i + 1 : Nat) : Int)) r) :
    ∀ d n, n + d = ws.length → Ev (fun k => spec_l05Prefix.l1 k ws (i : Int) (n : Int)) (preR ws i n d && r) := by
  have w1 := w64_succ (show i < 9223372036854775807 by omega)
  have c5 : (i : Int) < (ws.length : Int) := by omega
  have c6 : (0 : Int) ≤ (i : Int) := by omega
  intro d
  induction d with
  | zero =>
    intro n h
    have c1 : ¬ (n : Int) < (ws.length : Int) := by omega
    apply Ev.succ
    simp only [spec_l05Prefix.l1, w1]
    exact Ev.cond (fun h' => absurd h' c1) (fun _ => hr)
  | succ d ih =>
    intro n h
    have c1 : (n : Int) < (ws.length : Int) := by omega
    have c2 : (0 : Int) ≤ (n : Int) := by omega
    have h3 := ih (n + 1) (by omega)
    have z1 := Nat.le_trans (sn_size ws i) hs
    rw [preR_succ]
    apply Ev.succ
    simp only [spec_l05Prefix.l1, sr_nat, w64_succ (show n < 9223372036854775807 by omega), l01At_zero _ _ z1, Option.bind_some]
    refine Ev.cond (fun _ => ?_) (fun h' => absurd c1 h')
    by_cases hk : i = n
    · rw [decide_eq_true hk, Bool.true_or, Bool.true_and]
      exact Ev.cond (fun _ => h3) (fun h' => absurd (by rw [hk]) h')
    · rw [decide_eq_false hk, Bool.false_or]
      refine Ev.cond (fun h' => absurd (by omega) hk) (fun _ => ?_)
      refine Ev.cond (fun _ => ?_) (fun h' => absurd c2 h')
      refine Ev.cond (fun _ => ?_) (fun h' => absurd c6 h')
      refine Ev.cond (fun _ => ?_) (fun h' => absurd c5 h')
      rcases isPre (sn ws i) (sn ws n) with _ | _
      · exact Ev.cond (fun h' => absurd h' (by decide)) (fun _ => h3)
      · exact Ev.cond (fun _ => Ev.now _) (fun h' => absurd rfl h')
theorem l05Prefix_l0 (ws : List ByteArray) (hn : ws.length ≤ 1000) (hs : totS ws ≤ 1099511627776) : ∀ d n, n + d = ws.length → Ev (fun k => spec_l05Prefix.l0 k ws (n : Int)) (prefR ws n d) := by
  intro d
  induction d with
  | zero =>
    intro n h
    have c1 : ¬ (n : Int) < (ws.length : Int) := by omega
    apply Ev.succ
    simp only [spec_l05Prefix.l0]
    exact Ev.cond (fun h' => absurd h' c1) (fun _ => Ev.now _)
  | succ d ih =>
    intro n h
    have c1 : (n : Int) < (ws.length : Int) := by omega
    have h3 := l05Prefix_l1 ws hn hs n (by omega) (ih (n + 1) (by omega)) ws.length 0 (by omega)
    rw [prefR_succ]
    apply Ev.succ
    simp only [spec_l05Prefix.l0]
    exact Ev.cond (fun _ => h3) (fun h' => absurd c1 h')
theorem l05Kraft_l0 (ws : List ByteArray) (hn : ws.length ≤ 1000) (hs : ∀ i, (sn ws i).size ≤ 12) : ∀ d n a, n + d = ws.length → Ev (fun k => spec_l05Kraft.l0 k ws a (n : Int)) (krF (ws.drop n) a) := by
  intro d
  induction d with
  | zero =>
    intro n a h
    have c1 : ¬ (n : Int) < (ws.length : Int) := by omega
    rw [List.drop_eq_nil_of_le (by omega)]
    apply Ev.succ
    simp only [spec_l05Kraft.l0]
    exact Ev.cond (fun h' => absurd h' c1) (fun _ => Ev.now _)
  | succ d ih =>
    intro n a h
    have c1 : (n : Int) < (ws.length : Int) := by omega
    have c2 : (0 : Int) ≤ (n : Int) := by omega
    have hz := hs n
    have e : IntKind.u64.wrap (wrap64 (12 - ((sn ws n).size : Int))) = 12 - ((sn ws n).size : Int) := by
      rw [w64 (by omega) (by omega)]
      have e2 : ∀ z : Int, IntKind.u64.wrap z = z % 18446744073709551616 := fun z => by simp [IntKind.wrap, IntKind.bits, IntKind.signed]
      rw [e2]; omega
    have c3 : (0 : Int) ≤ 12 - ((sn ws n).size : Int) := by omega
    have h3 := ih (n + 1) (wrap64 (a + shl .i64 1 (12 - ((sn ws n).size : Int)))) (by omega)
    rw [drop_sn (show n < ws.length by omega)]
    unfold krF
    apply Ev.succ
    simp only [spec_l05Kraft.l0, sr_nat, w64_succ (show n < 9223372036854775807 by omega), e]
    refine Ev.cond (fun _ => ?_) (fun h' => absurd c1 h')
    refine Ev.cond (fun _ => ?_) (fun h' => absurd c2 h')
    exact Ev.cond (fun _ => h3) (fun h' => absurd c3 h')
theorem l05Complete_ev (ws : List ByteArray) (hc : codeB ws = true) (hs : totS ws ≤ 1099511627776) : Ev (fun k => spec_l05Complete.f k ws) (complB ws) := by
  obtain ⟨h1, h2⟩ := codeB_len hc
  unfold spec_l05Complete.f spec_l05Prefix.f spec_l05Kraft.f complB
  refine Ev.bind (l05Prefix_l0 ws (by omega) hs ws.length 0 (by omega)) ?_
  rcases prefR ws 0 ws.length with _ | _
  · exact Ev.cond (fun h' => absurd h' (by decide)) (fun _ => Ev.now _)
  refine Ev.cond (fun _ => ?_) (fun h' => absurd rfl h')
  refine Ev.bind (l05Kraft_l0 ws (by omega) (codeB_size hc) ws.length 0 0 (by omega)) (Ev.const ?_)
  rw [List.drop_zero, Bool.true_and]
  congr 1

/-! syncS -/
theorem bsT_str {b : Nat} (hb : b < 2) : strOfNums ([(wrap64 (48 + (b : Int))) % 256] : List Int) = bsT b := by
  have h : b = 0 ∨ b = 1 := by omega
  rcases h with rfl | rfl
  · have e : (wrap64 (48 + ((0 : Nat) : Int))) % 256 = 48 := by decide +kernel
    rw [e]; rfl
  · have e : (wrap64 (48 + ((1 : Nat) : Int))) % 256 = 49 := by decide +kernel
    rw [e]; rfl
/-- Where readers go. -/
def nxL (ws R : List ByteArray) (b k : Nat) : List Int := pre (fun i => ((pl R (rdB ws (sn R i) (bsT b)) : Nat) : Int)) k
theorem nxL_length (ws R : List ByteArray) (b k : Nat) : (nxL ws R b k).length = k := pre_length _ _
theorem nxL_rd (ws R : List ByteArray) (b k : Nat) {i : Nat} (h : i < k) : rd (nxL ws R b k) (i : Int) = ((pl R (rdB ws (sn R i) (bsT b)) : Nat) : Int) := by
  rw [rd_get (by rw [nxL_length]; exact h)]
  unfold nxL pre
  rw [List.getElem_map, List.getElem_range]
theorem rdRow_set (x : List (List Int)) (b : Nat) (h : b < x.length) (y : List Int) : rd_L3 (x.set b y) (b : Int) = y := by
  unfold rd_L3
  rw [Int.toNat_natCast, List.getD_eq_getElem?_getD, List.getElem?_set_self h]; rfl
theorem SyS_l1 {ws R : List ByteArray} (h : Rd ws R) (hn : ws.length ≤ 1099511627776) (b : Nat) (hb : b < 2) (x : List (List Int)) (hx : x.length = 2) {r : ByteArray × Bool} (hr : Ev (fun k => spec_SyncWord.l0 k ws R (R.length : Int) (x.set b (nxL ws R b R.length)) ((b + 1 : Nat) : Int)) r) :
    ∀ d i, i + d = R.length → Ev (fun k => spec_SyncWord.l1 k ws R (R.length : Int) (x.set b (nxL ws R b i)) (b : Int) (i : Int)) r := by
  have hf := h.few
  intro d
  induction d with
  | zero =>
    intro i hi
    obtain rfl : i = R.length := by omega
    have c1 : ¬ ((R.length : Nat) : Int) < (R.length : Int) := by omega
    apply Ev.succ
    simp only [spec_SyncWord.l1, w64_succ (show b < 9223372036854775807 by omega)]
    exact Ev.cond (fun h' => absurd h' c1) (fun _ => hr)
  | succ d ih =>
    intro i hi
    have hl : i < R.length := by omega
    have c1 : (i : Int) < (R.length : Int) := by omega
    have c2 : (0 : Int) ≤ (b : Int) := by omega
    have c3 : (b : Int) < ((x.set b (nxL ws R b i)).length : Int) := by rw [List.length_set]; omega
    have c4 : (0 : Int) ≤ (i : Int) := by omega
    have c5 : (nxL ws R b i).length < 17592186044416 := by rw [nxL_length]; omega
    have hm := sn_mem hl
    have z1 := (h.bits _ hm).1
    have h1 := l05Read_ev ws hn (sn R i) (bsT b) (by rw [bsT_size]; omega)
    have h2 := l03Index_ev R (rdB ws (sn R i) (bsT b)) (by omega)
    have hp := pl_at (h.next _ hm b)
    rw [hp.2.1] at h2
    have h3 := ih (i + 1) (by omega)
    have e : nxL ws R b (i + 1) = nxL ws R b i ++ [((pl R (rdB ws (sn R i) (bsT b)) : Nat) : Int)] := pre_succ _ _
    rw [e] at h3
    apply Ev.succ
    simp only [spec_SyncWord.l1, sr_nat, Int.toNat_natCast, rdRow_set x b (by omega), List.set_set, bsT_str hb, w64_succ (show i < 9223372036854775807 by omega)]
    refine Ev.cond (fun _ => ?_) (fun h' => absurd c1 h')
    refine Ev.cond (fun _ => ?_) (fun h' => absurd c2 h')
    refine Ev.cond (fun _ => ?_) (fun h' => absurd c3 h')
    refine Ev.cond (fun _ => ?_) (fun h' => absurd c4 h')
    refine Ev.cond (fun _ => ?_) (fun h' => absurd c1 h')
    refine Ev.bind h1 (Ev.bind h2 ?_)
    exact Ev.cond (fun _ => h3) (fun h' => absurd c5 h')
/-- The table of the next readers. -/
def nxT (ws R : List ByteArray) : List (List Int) := [nxL ws R 0 R.length, nxL ws R 1 R.length]
theorem nxT_row (ws R : List ByteArray) {b : Nat} (hb : b < 2) : rd_L3 (nxT ws R) (b : Int) = nxL ws R b R.length := by
  have h : b = 0 ∨ b = 1 := by omega
  rcases h with rfl | rfl <;> rfl
theorem SyS_l0 {ws R : List ByteArray} (h : Rd ws R) (hn : ws.length ≤ 1099511627776) {r : ByteArray × Bool} (hr : Ev (fun k => spec_SyncWord.l0 k ws R (R.length : Int) (nxT ws R) 2) r) :
    Ev (fun k => spec_SyncWord.l0 k ws R (R.length : Int) (List.replicate 2 []) 0) r := by
  have s1 : Ev (fun k => spec_SyncWord.l0 k ws R (R.length : Int) [nxL ws R 0 R.length, []] 1) r := by
    have h1 := SyS_l1 h hn 1 (by decide) [nxL ws R 0 R.length, []] rfl (r := r) hr R.length 0 (by omega)
    apply Ev.succ
    simp only [spec_SyncWord.l0]
    exact Ev.cond (fun _ => h1) (fun h' => absurd (by decide) h')
  have h0 := SyS_l1 h hn 0 (by decide) [[], []] rfl (r := r) s1 R.length 0 (by omega)
  apply Ev.succ
  simp only [spec_SyncWord.l0]
  exact Ev.cond (fun _ => h0) (fun h' => absurd (by decide) h')
theorem SyS_l4 {ws R : List ByteArray} (h : Rd ws R) (b : Nat) (hb : b < 2) (g : Int) (F q : List Int) (at_ : Int) (m : Nat) (hm : m < 2 ^ R.length) {r : ByteArray × Bool}
    (hr : Ev (fun k => spec_SyncWord.l4 k (R.length : Int) (nxT ws R) g F q at_ (m : Int) (b : Int) ((stp ws R b m : Nat) : Int) (R.length : Int)) r) :
    ∀ d i, i + d = R.length → Ev (fun k => spec_SyncWord.l4 k (R.length : Int) (nxT ws R) g F q at_ (m : Int) (b : Int) ((stpG (fun i => pl R (rdB ws (sn R i) (bsT b))) m i 0 : Nat) : Int) (i : Int)) r := by
  have hf := h.few
  have hp15 : 2 ^ R.length ≤ 2 ^ 15 := Nat.pow_le_pow_right (by decide) hf
  have h62 : (2 : Nat) ^ 15 < 2 ^ 62 := by decide
  intro d
  induction d with
  | zero =>
    intro i hi
    obtain rfl : i = R.length := by omega
    exact hr
  | succ d ih =>
    intro i hi
    have hl : i < R.length := by omega
    have c1 : (i : Int) < (R.length : Int) := by omega
    have c2 : (0 : Int) ≤ (i : Int) := by omega
    have c3 : (0 : Int) ≤ (b : Int) := by omega
    have c4 : (b : Int) < ((nxT ws R).length : Int) := by show (b : Int) < 2; omega
    have c5 : (i : Int) < ((nxL ws R b R.length).length : Int) := by rw [nxL_length]; omega
    have hx := h.nx_lt b i hl
    have ha := stpG_lt (fun i => pl R (rdB ws (sn R i) (bsT b))) m R.length (h.nx_lt b) i (by omega)
    have h3 := ih (i + 1) (by omega)
    generalize hA : stpG (fun i => pl R (rdB ws (sn R i) (bsT b))) m i 0 = A at ha h3 ⊢
    have hlt : 2 ^ (pl R (rdB ws (sn R i) (bsT b))) < 2 ^ 62 := Nat.pow_lt_pow_right (by decide) (by omega)
    have e1 : Go.bits .or .i64 (A : Int) (shl .i64 1 ((pl R (rdB ws (sn R i) (bsT b)) : Nat) : Int)) = ((A ||| 2 ^ (pl R (rdB ws (sn R i) (bsT b))) : Nat) : Int) := by
      rw [shl_one (by omega), bits_or (Nat.lt_of_lt_of_le ha (Nat.le_trans hp15 (Nat.le_of_lt h62))) hlt]
    have e2 := bit_at m i (Nat.lt_trans (Nat.lt_of_lt_of_le hm hp15) h62) (by omega)
    have e3 : m.testBit i = decide (m / 2 ^ i % 2 = 1) := Nat.testBit_eq_decide_div_mod_eq
    unfold stpG at h3
    simp only [hA] at h3
    apply Ev.succ
    simp only [spec_SyncWord.l4, u64_nat (show i < 2 ^ 63 by omega), e2, nxT_row ws R hb, nxL_rd ws R b R.length hl, u64_nat (show pl R (rdB ws (sn R i) (bsT b)) < 2 ^ 63 by omega), e1, w64_succ (show i < 9223372036854775807 by omega)]
    refine Ev.cond (fun _ => ?_) (fun h' => absurd c1 h')
    refine Ev.cond (fun _ => ?_) (fun h' => absurd c2 h')
    by_cases hbit : m / 2 ^ i % 2 = 1
    · rw [if_pos (by rw [e3]; exact decide_eq_true hbit)] at h3
      refine Ev.cond (fun _ => ?_) (fun h' => absurd (by rw [hbit]; rfl) h')
      refine Ev.cond (fun _ => ?_) (fun h' => absurd c3 h')
      refine Ev.cond (fun _ => ?_) (fun h' => absurd c4 h')
      refine Ev.cond (fun _ => ?_) (fun h' => absurd c2 h')
      refine Ev.cond (fun _ => ?_) (fun h' => absurd c5 h')
      exact Ev.cond (fun _ => h3) (fun h' => absurd (Int.natCast_nonneg _) h')
    · rw [if_neg (by rw [e3]; intro h'; exact hbit (of_decide_eq_true h'))] at h3
      exact Ev.cond (fun h' => absurd (by omega) hbit) (fun _ => h3)
/-- The bits that lead to a set. -/
inductive Bk (F : List Int) : Nat → ByteArray → Prop
  | root {m : Nat} (h : F.getD m 0 = -1) : Bk F m ⟨#[]⟩
  | step {m m' b : Nat} {s : ByteArray} (h : F.getD m 0 = ((2 * m' + b : Nat) : Int)) (hb : b < 2) (h0 : 0 < m') (t : Bk F m' s) : Bk F m (s ++ bsT b)
theorem Bk.ne {F : List Int} {m : Nat} {s : ByteArray} (h : Bk F m s) : F.getD m 0 ≠ 0 := by
  cases h with
  | root h => rw [h]; decide
  | step h hb h0 t => rw [h]; omega
theorem getD_lt {F : List Int} {m : Nat} (h : F.getD m 0 ≠ 0) : m < F.length := by
  rcases Nat.lt_or_ge m F.length with h1 | h1
  · exact h1
  · rw [List.getD_eq_getElem?_getD, List.getElem?_eq_none h1] at h
    exact absurd rfl h
theorem getD_set {F : List Int} {t : Nat} (ht : t < F.length) (v : Int) (m : Nat) : (F.set t v).getD m 0 = if t = m then v else F.getD m 0 := by
  rw [List.getD_eq_getElem?_getD, List.getElem?_set]
  by_cases h : t = m
  · rw [if_pos h, if_pos h]; simp [ht, ← h]
  · rw [if_neg h, if_neg h, List.getD_eq_getElem?_getD]
theorem Bk.kept {F : List Int} {t : Nat} (ht : t < F.length) (h0 : F.getD t 0 = 0) (v : Int) {m : Nat} {s : ByteArray} (h : Bk F m s) : Bk (F.set t v) m s := by
  induction h with
  | root h =>
    refine .root ?_
    rw [getD_set ht, if_neg (by rintro rfl; rw [h] at h0; exact absurd h0 (by decide)), h]
  | step h hb h1 t2 ih =>
    refine .step ?_ hb h1 ih
    rw [getD_set ht, if_neg (by rintro rfl; rw [h] at h0; omega), h]
theorem str_app (a b : List Int) : strOfNums (a ++ b) = strOfNums a ++ strOfNums b := by
  apply ByteArray.ext
  rw [ByteArray.data_append]
  apply Array.ext'
  rw [Array.toList_append, strOfNums_data, strOfNums_data, strOfNums_data, List.map_append]
theorem back_ev {F : List Int} (hF : F.length ≤ 1099511627776) {m : Nat} {s : ByteArray} (h : Bk F m s) : ∀ acc : List Int, acc.length + s.size ≤ 1099511627776 → Ev (fun k => spec_l05Back.l0 k F (m : Int) acc) (s ++ strOfNums acc) := by
  induction h with
  | @root m h =>
    intro acc ha
    have hm : m < F.length := getD_lt (by rw [h]; decide)
    have c1 : (0 : Int) ≤ (m : Int) := by omega
    have c2 : (m : Int) < (F.length : Int) := by omega
    have e : (⟨#[]⟩ : ByteArray) ++ strOfNums acc = strOfNums acc := by
      apply ByteArray.ext; rw [ByteArray.data_append]; apply Array.ext'; rw [Array.toList_append]; rfl
    rw [e]
    apply Ev.succ
    simp only [spec_l05Back.l0, rd_nat, h]
    refine Ev.cond (fun _ => ?_) (fun h' => absurd c1 h')
    refine Ev.cond (fun _ => ?_) (fun h' => absurd c2 h')
    exact Ev.cond (fun h' => absurd h' (by decide)) (fun _ => Ev.now _)
  | @step m m' b s h hb h0 t ih =>
    intro acc ha
    have hm : m < F.length := getD_lt (by rw [h]; omega)
    have hm' : m' < F.length := getD_lt t.ne
    have c1 : (0 : Int) ≤ (m : Int) := by omega
    have c2 : (m : Int) < (F.length : Int) := by omega
    have c3 : ((2 * m' + b : Nat) : Int) ≥ 0 := by omega
    have e1 : Int.tmod ((2 * m' + b : Nat) : Int) 2 = (b : Int) := by
      rw [Int.tmod_eq_emod_of_nonneg (by omega)]; omega
    have e2 : wrap64 (Int.tdiv ((2 * m' + b : Nat) : Int) 2) = (m' : Int) := by
      rw [Int.tdiv_eq_ediv_of_nonneg (by omega)]
      have e3 : ((2 * m' + b : Nat) : Int) / 2 = (m' : Int) := by omega
      rw [e3, w64 (by omega) (by omega)]
    rw [ByteArray.size_append, bsT_size] at ha
    have h3 := ih (([(wrap64 (48 + (b : Int))) % 256] : List Int) ++ acc) (by rw [List.length_append, List.length_singleton]; omega)
    have c4 : ([(wrap64 (48 + (b : Int))) % 256] : List Int).length + acc.length < 140737488355328 := by rw [List.length_singleton]; omega
    rw [str_app, bsT_str hb, ← ByteArray.append_assoc] at h3
    apply Ev.succ
    simp only [spec_l05Back.l0, rd_nat, h, e1, e2, Option.bind_some]
    refine Ev.cond (fun _ => ?_) (fun h' => absurd c1 h')
    refine Ev.cond (fun _ => ?_) (fun h' => absurd c2 h')
    refine Ev.cond (fun _ => ?_) (fun h' => absurd c3 h')
    exact Ev.cond (fun _ => h3) (fun h' => absurd c4 h')
theorem str_nil (s : ByteArray) : s ++ strOfNums [] = s := by
  apply ByteArray.ext; rw [ByteArray.data_append]; apply Array.ext'; rw [Array.toList_append]; exact List.append_nil _
theorem back_f {F : List Int} (hF : F.length ≤ 1099511627776) {m : Nat} {s : ByteArray} (h : Bk F m s) (hs : s.size ≤ 1099511627776) : Ev (fun k => spec_l05Back.f k F (m : Int)) s := by
  have h1 := back_ev hF h [] (by rw [List.length_nil]; omega)
  rw [str_nil] at h1
  exact h1

/-! read05I -/
theorem readI_ev (ws : List ByteArray) (hn : ws.length ≤ 1099511627776) (r b : ByteArray) (hs : r.size + b.size ≤ 1099511627776) : Ev (fun k => impl_read.f k ws r b) (rdB ws r b) := by
  have c1 : r.size + b.size ≤ 9223372036854775807 := by omega
  unfold impl_read.f rdB
  refine Ev.cond (fun _ => ?_) (fun h' => absurd c1 h')
  refine Ev.bind (sContains_ev ws (r ++ b) hn) ?_
  by_cases hm : r ++ b ∈ ws
  · rw [if_pos hm, decide_eq_true hm]
    exact Ev.cond (fun _ => Ev.now _) (fun h' => absurd rfl h')
  · rw [if_neg hm, decide_eq_false hm]
    exact Ev.cond (fun h' => absurd h' (by decide)) (fun _ => Ev.now _)
theorem endsI_rd (f : Nat → Bool) (m b : Nat) (h1 : 1 ≤ b) (h2 : b ≤ m) : rdOf false (true :: (List.range' 1 m).map f) (b : Int) = f b := by
  unfold rdOf
  rw [Int.toNat_natCast]
  obtain ⟨c, rfl⟩ : ∃ c, b = c + 1 := ⟨b - 1, by omega⟩
  rw [List.getD_eq_getElem?_getD, List.getElem?_cons_succ, List.getElem?_map, List.getElem?_eq_getElem (by rw [List.length_range']; omega), List.getElem_range']
  simp only [Option.map_some, Option.getD_some]
  congr 1
  omega

/-! IsBits -/
theorem trim_bits (s : ByteArray) (h : s.size ≤ 9223372036854775807) : strings_Trim.f s (⟨#[48, 49]⟩ : ByteArray) = some ⟨(Lib.trimS s.data.toList [48, 49]).toArray⟩ := by
  unfold strings_Trim.f
  rw [if_pos ⟨h, by decide, by decide⟩]
theorem areBits_eq (s : ByteArray) (h : s.size ≤ 9223372036854775807) : impl_areBits.f s = some (s.data.toList.all isBitB) := by
  unfold impl_areBits.f
  rw [trim_bits s h, Option.bind_some]
  congr 1
  have e1 : (⟨(Lib.trimS s.data.toList [48, 49]).toArray⟩ : ByteArray).toList = Lib.trimS s.data.toList [48, 49] := by rw [Lib.toList_data]
  rw [e1, Bool.eq_iff_iff, beq_iff_eq, trimS_nil]
  have e2 : (fun b => ([48, 49] : List UInt8).contains b) = isBitB := funext contains_bits
  rw [e2]

/-! code05I -/
theorem IsCodeI_l0 (ws : List ByteArray) (hn : ws.length ≤ 1000) (hs : totS ws ≤ 1099511627776) : ∀ d n, n + d = ws.length → Ev (fun k => impl_IsCode.l0 k ws ws (ws.length : Int) (n : Int)) (codeR ws n d) := by
  intro d
  induction d with
  | zero =>
    intro n h
    have c1 : ¬ (n : Int) < (ws.length : Int) := by omega
    apply Ev.succ
    simp only [impl_IsCode.l0]
    exact Ev.cond (fun h' => absurd h' c1) (fun _ => Ev.now _)
  | succ d ih =>
    intro n h
    have c1 : (n : Int) < (ws.length : Int) := by omega
    have c2 : (0 : Int) ≤ (n : Int) := by omega
    have c4 : (n : Int) ≤ (ws.length : Int) := by omega
    have h3 := ih (n + 1) (by omega)
    have z1 := Nat.le_trans (sn_size ws n) hs
    have hi := sContains_ev (ws.take n) (sn ws n) (by rw [List.length_take]; omega)
    rw [codeR_succ]
    unfold codeI
    apply Ev.succ
    simp only [impl_IsCode.l0, sr_nat, w64_succ (show n < 9223372036854775807 by omega), Int.toNat_natCast]
    refine Ev.cond (fun _ => ?_) (fun h' => absurd c1 h')
    refine Ev.cond (fun _ => ?_) (fun h' => absurd c2 h')
    refine Ev.cond (fun _ => ?_) (fun h' => absurd c1 h')
    refine Ev.cond (fun h1 => ?_) (fun h1 => ?_)
    · rw [decide_eq_false (show ¬ (1 ≤ (sn ws n).size ∧ (sn ws n).size ≤ 12) by omega)]; exact Ev.now _
    refine Ev.cond (fun h2 => ?_) (fun h2 => ?_)
    · rw [decide_eq_false (show ¬ (1 ≤ (sn ws n).size ∧ (sn ws n).size ≤ 12) by omega)]; exact Ev.now _
    rw [decide_eq_true (show 1 ≤ (sn ws n).size ∧ (sn ws n).size ≤ 12 by omega), Bool.true_and]
    refine Ev.bind (Ev.const (areBits_eq _ (by omega))) ?_
    rcases (sn ws n).data.toList.all isBitB with _ | _
    · exact Ev.cond (fun h' => absurd h' (by decide)) (fun _ => Ev.now _)
    refine Ev.cond (fun _ => ?_) (fun h' => absurd rfl h')
    refine Ev.cond (fun _ => ?_) (fun h' => absurd c4 h')
    refine Ev.bind hi ?_
    rcases decide (sn ws n ∈ ws.take n) with _ | _
    · exact Ev.cond (fun h' => absurd h' (by decide)) (fun _ => h3)
    · exact Ev.cond (fun _ => Ev.now _) (fun h' => absurd rfl h')
theorem IsCodeI_ev (ws : List ByteArray) (hn : ws.length ≤ 1099511627776) (hs : totS ws ≤ 1099511627776) : Ev (fun k => impl_IsCode.f k ws) (codeB ws) := by
  unfold impl_IsCode.f codeB
  by_cases h1 : 1 ≤ ws.length
  · have c1 : ¬ (ws.length : Int) < 1 := by omega
    refine Ev.cond (fun h' => absurd h' c1) (fun _ => ?_)
    apply Ev.succ
    simp only [impl_IsCode.j0]
    by_cases h2 : ws.length ≤ 16
    · rw [decide_eq_true (show 1 ≤ ws.length ∧ ws.length ≤ 16 from ⟨h1, h2⟩), Bool.true_and, decide_eq_false (show ¬ (ws.length : Int) > 16 by omega)]
      exact Ev.cond (fun h' => absurd h' (by decide)) (fun _ => IsCodeI_l0 ws (by omega) hs ws.length 0 (by omega))
    · rw [decide_eq_false (show ¬ (1 ≤ ws.length ∧ ws.length ≤ 16) from fun h => h2 h.2), decide_eq_true (show (ws.length : Int) > 16 by omega)]
      exact Ev.cond (fun _ => Ev.now _) (fun h' => absurd rfl h')
  · have c1 : (ws.length : Int) < 1 := by omega
    rw [decide_eq_false (show ¬ (1 ≤ ws.length ∧ ws.length ≤ 16) from fun h => h1 h.1)]
    refine Ev.cond (fun _ => ?_) (fun h' => absurd c1 h')
    apply Ev.succ
    simp only [impl_IsCode.j0]
    exact Ev.cond (fun _ => Ev.now _) (fun h' => absurd (by trivial) h')
theorem HasPrefix_eq (s p : ByteArray) : strings_HasPrefix.f s p = some (isPre p s) := by
  unfold strings_HasPrefix.f stringslite_HasPrefix.f isPre
  by_cases h : p.size ≤ s.size
  · have c1 : (s.size : Int) ≥ (p.size : Int) := by omega
    have c2 : (0 : Int) ≤ (p.size : Int) := by omega
    rw [if_pos c1, if_pos c2, if_pos c1, decide_eq_true h, Bool.true_and]
    simp only [Int.toNat_natCast]; rfl
  · have c1 : ¬ (s.size : Int) ≥ (p.size : Int) := by omega
    rw [if_neg c1, decide_eq_false h]; rfl
theorem IsPrefixI_l1 (ws : List ByteArray) (hn : ws.length ≤ 1000) (i : Nat) (hi : i < ws.length) {r : Bool} (hr : Ev (fun k => impl_IsPrefixCode.l0 k ws ws (ws.length : Int) ((i + 1 : Nat) : Int)) r) :
    ∀ d n, n + d = ws.length → Ev (fun k => impl_IsPrefixCode.l1 k ws (i : Int) (sn ws i) ws (ws.length : Int) (i : Int) ws (ws.length : Int) (n : Int)) (preR ws i n d && r) := by
  have w1 := w64_succ (show i < 9223372036854775807 by omega)
  intro d
  induction d with
  | zero =>
    intro n h
    have c1 : ¬ (n : Int) < (ws.length : Int) := by omega
    apply Ev.succ
    simp only [impl_IsPrefixCode.l1, w1]
    exact Ev.cond (fun h' => absurd h' c1) (fun _ => hr)
  | succ d ih =>
    intro n h
    have c1 : (n : Int) < (ws.length : Int) := by omega
    have c2 : (0 : Int) ≤ (n : Int) := by omega
    have h3 := ih (n + 1) (by omega)
    rw [preR_succ]
    apply Ev.succ
    simp only [impl_IsPrefixCode.l1, sr_nat, w64_succ (show n < 9223372036854775807 by omega), HasPrefix_eq, Option.bind_some]
    refine Ev.cond (fun _ => ?_) (fun h' => absurd c1 h')
    refine Ev.cond (fun _ => ?_) (fun h' => absurd c2 h')
    refine Ev.cond (fun _ => ?_) (fun h' => absurd c1 h')
    by_cases hk : i = n
    · rw [decide_eq_true hk, Bool.true_or, Bool.true_and]
      exact Ev.cond (fun _ => h3) (fun h' => absurd (by rw [hk]) h')
    · rw [decide_eq_false hk, Bool.false_or]
      refine Ev.cond (fun h' => absurd (by omega) hk) (fun _ => ?_)
      rcases isPre (sn ws i) (sn ws n) with _ | _
      · exact Ev.cond (fun h' => absurd h' (by decide)) (fun _ => h3)
      · exact Ev.cond (fun _ => Ev.now _) (fun h' => absurd rfl h')
theorem IsPrefixI_l0 (ws : List ByteArray) (hn : ws.length ≤ 1000) : ∀ d n, n + d = ws.length → Ev (fun k => impl_IsPrefixCode.l0 k ws ws (ws.length : Int) (n : Int)) (prefR ws n d) := by
  intro d
  induction d with
  | zero =>
    intro n h
    have c1 : ¬ (n : Int) < (ws.length : Int) := by omega
    apply Ev.succ
    simp only [impl_IsPrefixCode.l0]
    exact Ev.cond (fun h' => absurd h' c1) (fun _ => Ev.now _)
  | succ d ih =>
    intro n h
    have c1 : (n : Int) < (ws.length : Int) := by omega
    have c2 : (0 : Int) ≤ (n : Int) := by omega
    have h3 := IsPrefixI_l1 ws hn n (by omega) (ih (n + 1) (by omega)) ws.length 0 (by omega)
    rw [prefR_succ]
    apply Ev.succ
    simp only [impl_IsPrefixCode.l0, sr_nat]
    refine Ev.cond (fun _ => ?_) (fun h' => absurd c1 h')
    refine Ev.cond (fun _ => ?_) (fun h' => absurd c2 h')
    exact Ev.cond (fun _ => h3) (fun h' => absurd c1 h')
theorem kraftI_l0 (ws : List ByteArray) (hn : ws.length ≤ 1000) (hs : ∀ i, (sn ws i).size ≤ 12) : ∀ d n a, n + d = ws.length → Ev (fun k => impl_kraft.l0 k a ws (ws.length : Int) (n : Int)) (krF (ws.drop n) a) := by
  intro d
  induction d with
  | zero =>
    intro n a h
    have c1 : ¬ (n : Int) < (ws.length : Int) := by omega
    rw [List.drop_eq_nil_of_le (by omega)]
    apply Ev.succ
    simp only [impl_kraft.l0]
    exact Ev.cond (fun h' => absurd h' c1) (fun _ => Ev.now _)
  | succ d ih =>
    intro n a h
    have c1 : (n : Int) < (ws.length : Int) := by omega
    have c2 : (0 : Int) ≤ (n : Int) := by omega
    have hz := hs n
    have e : wrap64 (12 - ((sn ws n).size : Int)) = 12 - ((sn ws n).size : Int) := w64 (by omega) (by omega)
    have c3 : (0 : Int) ≤ 12 - ((sn ws n).size : Int) := by omega
    have h3 := ih (n + 1) (wrap64 (a + shl .i64 1 (12 - ((sn ws n).size : Int)))) (by omega)
    rw [drop_sn (show n < ws.length by omega)]
    unfold krF
    apply Ev.succ
    simp only [impl_kraft.l0, sr_nat, w64_succ (show n < 9223372036854775807 by omega), e]
    refine Ev.cond (fun _ => ?_) (fun h' => absurd c1 h')
    refine Ev.cond (fun _ => ?_) (fun h' => absurd c2 h')
    refine Ev.cond (fun _ => ?_) (fun h' => absurd c1 h')
    exact Ev.cond (fun _ => h3) (fun h' => absurd c3 h')
theorem IsCompleteI_ev (ws : List ByteArray) (hn : ws.length ≤ 1099511627776) (hs : totS ws ≤ 1099511627776) : Ev (fun k => impl_IsCompleteCode.f k ws) (codeB ws && complB ws) := by
  unfold impl_IsCompleteCode.f impl_IsPrefixCode.f impl_kraft.f complB
  rcases hc : codeB ws with _ | _
  · have hp := IsCodeI_ev ws hn hs
    rw [hc] at hp
    refine Ev.bind (Ev.bind hp (Ev.cond (fun h' => absurd h' (by decide)) (fun _ => Ev.now false))) ?_
    exact Ev.cond (fun h' => absurd h' (by decide)) (fun _ => Ev.now _)
  · have hp := IsCodeI_ev ws hn hs
    rw [hc] at hp
    obtain ⟨h1, h2⟩ := codeB_len hc
    refine Ev.bind (Ev.bind hp (Ev.cond (fun _ => IsPrefixI_l0 ws (by omega) ws.length 0 (by omega)) (fun h' => absurd rfl h'))) ?_
    rcases prefR ws 0 ws.length with _ | _
    · exact Ev.cond (fun h' => absurd h' (by decide)) (fun _ => Ev.now _)
    refine Ev.cond (fun _ => ?_) (fun h' => absurd rfl h')
    refine Ev.bind (kraftI_l0 ws (by omega) (codeB_size hc) ws.length 0 0 (by omega)) (Ev.const ?_)
    rw [List.drop_zero, Bool.true_and, Bool.true_and]
    congr 1

/-! syncI -/
theorem bsT_of {b : Nat} (hb : b < 2) : rdOf ByteArray.empty [(⟨#[48]⟩ : ByteArray), (⟨#[49]⟩ : ByteArray)] (b : Int) = bsT b := by
  have h : b = 0 ∨ b = 1 := by omega
  rcases h with rfl | rfl <;> rfl
theorem one_iff (l : List ByteArray) : ((l.length : Int) = 1 ∧ (rdOf ByteArray.empty l 0).toList = ([] : List UInt8)) ↔ l = [(⟨#[]⟩ : ByteArray)] := by
  constructor
  · rintro ⟨h1, h2⟩
    obtain ⟨x, rfl⟩ : ∃ x, l = [x] := by
      cases l with
      | nil => simp at h1
      | cons x l =>
        cases l with
        | nil => exact ⟨x, rfl⟩
        | cons y l => rw [List.length_cons, List.length_cons] at h1; omega
    have h3 : x.toList = ([] : List UInt8) := h2
    rw [Lib.toList_data] at h3
    congr 1
    exact ByteArray.ext (Array.ext' h3)
  · rintro rfl
    refine ⟨rfl, ?_⟩
    show (⟨#[]⟩ : ByteArray).toList = _
    rw [Lib.toList_data]
theorem SyI_l8 {ws R : List ByteArray} (h : Rd ws R) (hn : ws.length ≤ 1099511627776) (Q : List (List ByteArray × ByteArray)) (keys : List ByteArray) (m : Nat) (s : ByteArray) (b : Nat) {r : ByteArray × Bool}
    (hr : Ev (fun k => impl_SyncWord.l8 k ws Q keys (phi R m, s) (b : Int) (bsT b) ((phi R m).map fun x => rdB ws x (bsT b)) ((phi R m).length : Int)) r) :
    ∀ d i, i + d = (phi R m).length → Ev (fun k => impl_SyncWord.l8 k ws Q keys (phi R m, s) (b : Int) (bsT b) (((phi R m).take i).map fun x => rdB ws x (bsT b)) (i : Int)) r := by
  have hf := h.few
  have hL := phi_length R m
  intro d
  induction d with
  | zero =>
    intro i hi
    obtain rfl : i = (phi R m).length := by omega
    rw [List.take_length]
    exact hr
  | succ d ih =>
    intro i hi
    have hl : i < (phi R m).length := by omega
    have c1 : (i : Int) < ((phi R m).length : Int) := by omega
    have c2 : (0 : Int) ≤ (i : Int) := by omega
    have hm := phi_sub (sn_mem hl)
    have h1 := readI_ev ws hn (sn (phi R m) i) (bsT b) (by have := (h.bits _ hm).1; rw [bsT_size]; omega)
    have c3 : (((phi R m).take i).map fun x => rdB ws x (bsT b)).length < 8796093022208 := by rw [List.length_map, List.length_take]; omega
    have h3 := ih (i + 1) (by omega)
    rw [take_sn hl, List.map_append, List.map_singleton] at h3
    apply Ev.succ
    simp only [impl_SyncWord.l8, sr_nat, w64_succ (show i < 9223372036854775807 by omega)]
    refine Ev.cond (fun _ => ?_) (fun h' => absurd c1 h')
    refine Ev.cond (fun _ => ?_) (fun h' => absurd c2 h')
    refine Ev.bind h1 ?_
    exact Ev.cond (fun _ => h3) (fun h' => absurd c3 h')
theorem SyI_l1 (ws : List ByteArray) (i : Nat) (hi : i < 1099511627776) (x : ByteArray) (hx : x.size ≤ 1099511627776) {r : ByteArray × Bool} : ∀ d j (all : List ByteArray), j + d = x.size → all.length + d ≤ 1099511627776 →
    Ev (fun k => impl_SyncWord.l0 k ws (all ++ begs x j d) ((i + 1 : Nat) : Int)) r → Ev (fun k => impl_SyncWord.l1 k ws all (i : Int) x (j : Int)) r := by
  intro d
  induction d with
  | zero =>
    intro j all h ha hr
    have c1 : ¬ (j : Int) < (x.size : Int) := by omega
    have e : all ++ begs x j 0 = all := List.append_nil _
    rw [e] at hr
    apply Ev.succ
    simp only [impl_SyncWord.l1, w64_succ (show i < 9223372036854775807 by omega)]
    exact Ev.cond (fun h' => absurd h' c1) (fun _ => hr)
  | succ d ih =>
    intro j all h ha hr
    have c1 : (j : Int) < (x.size : Int) := by omega
    have c2 : (0 : Int) ≤ (j : Int) := by omega
    have c3 : (j : Int) ≤ (x.size : Int) := by omega
    have c4 : all.length < 8796093022208 := by omega
    rw [begs_succ] at hr
    have h3 := ih (j + 1) (all ++ [x.extract 0 j]) (by omega) (by rw [List.length_append, List.length_singleton]; omega) (by rw [List.append_assoc, List.singleton_append]; exact hr)
    apply Ev.succ
    simp only [impl_SyncWord.l1, Int.toNat_natCast, w64_succ (show j < 9223372036854775807 by omega)]
    refine Ev.cond (fun _ => ?_) (fun h' => absurd c1 h')
    refine Ev.cond (fun _ => ?_) (fun h' => absurd c2 h')
    refine Ev.cond (fun _ => ?_) (fun h' => absurd c3 h')
    exact Ev.cond (fun _ => h3) (fun h' => absurd c4 h')
theorem SyI_l0 (ws : List ByteArray) (hn : ws.length ≤ 1099511627776) (hs : totS ws ≤ 1099511627776) {r : ByteArray × Bool}
    (hr : Ev (fun k => impl_SyncWord.l0 k ws (allP ws) (ws.length : Int)) r) : ∀ d n (all : List ByteArray), n + d = ws.length → all.length + totS (ws.drop n) ≤ 1099511627776 → all ++ allP (ws.drop n) = allP ws → Ev (fun k => impl_SyncWord.l0 k ws all (n : Int)) r := by
  intro d
  induction d with
  | zero =>
    intro n all h ha e
    obtain rfl : n = ws.length := by omega
    rw [List.drop_length] at e
    have e2 : all = allP ws := by rw [← e]; exact (List.append_nil _).symm
    rw [e2]; exact hr
  | succ d ih =>
    intro n all h ha e
    have c1 : (n : Int) < (ws.length : Int) := by omega
    have c2 : (0 : Int) ≤ (n : Int) := by omega
    have hz := sn_size ws n
    rw [drop_sn (show n < ws.length by omega)] at ha e
    unfold totS at ha
    rw [show allP (sn ws n :: ws.drop (n + 1)) = begs (sn ws n) 0 (sn ws n).size ++ allP (ws.drop (n + 1)) from rfl] at e
    have h3 := ih (n + 1) (all ++ begs (sn ws n) 0 (sn ws n).size) (by omega) (by rw [List.length_append, begs_length]; omega) (by rw [List.append_assoc]; exact e)
    have h4 := SyI_l1 ws n (by omega) (sn ws n) (by omega) (sn ws n).size 0 all (by omega) (by omega) h3
    apply Ev.succ
    simp only [impl_SyncWord.l0, sr_nat]
    refine Ev.cond (fun _ => ?_) (fun h' => absurd c1 h')
    exact Ev.cond (fun _ => h4) (fun h' => absurd c2 h')

/-! szStringS -/
theorem szS_l0 (xs : List ByteArray) (hs : ∀ x ∈ xs, x.size ≤ 9223372036854775807) (hn : xs.length ≤ 1099511627776) : ∀ (d n : Nat) (left : Int), n + d = xs.length → 0 ≤ left → left ≤ 1048576 → ∃ v : Int, Ev (fun k => laws_szStringS.l0 k xs left (n : Int)) v ∧ (v = -1 ∨ (0 ≤ v ∧ v + (totS (xs.drop n) : Int) = left)) := by
  intro d
  induction d with
  | zero =>
    intro n left h h0 h1
    have c1 : ¬ (n : Int) < (xs.length : Int) := by omega
    refine ⟨left, ?_, .inr ⟨h0, ?_⟩⟩
    · apply Ev.succ
      simp only [laws_szStringS.l0]
      exact Ev.cond (fun h' => absurd h' c1) (fun _ => Ev.now _)
    · rw [List.drop_eq_nil_of_le (by omega)]
      simp [totS]
  | succ d ih =>
    intro n left h h0 h1
    have hl : n < xs.length := by omega
    have c1 : (n : Int) < (xs.length : Int) := by omega
    have c2 : (0 : Int) ≤ (n : Int) := by omega
    have hb := hs _ (sn_mem hl)
    have e : wrap64 (left - ((sn xs n).size : Int)) = left - ((sn xs n).size : Int) := w64 (by omega) (by omega)
    by_cases hc : left - ((sn xs n).size : Int) < 0
    · refine ⟨-1, ?_, .inl rfl⟩
      apply Ev.succ
      simp only [laws_szStringS.l0, sr_nat, e]
      refine Ev.cond (fun _ => ?_) (fun h' => absurd c1 h')
      refine Ev.cond (fun _ => ?_) (fun h' => absurd c2 h')
      exact Ev.cond (fun _ => Ev.now _) (fun h' => absurd hc h')
    · obtain ⟨v, hv, hp⟩ := ih (n + 1) (left - ((sn xs n).size : Int)) (by omega) (by omega) (by omega)
      refine ⟨v, ?_, ?_⟩
      · apply Ev.succ
        simp only [laws_szStringS.l0, sr_nat, e, w64_succ (show n < 9223372036854775807 by omega)]
        refine Ev.cond (fun _ => ?_) (fun h' => absurd c1 h')
        refine Ev.cond (fun _ => ?_) (fun h' => absurd c2 h')
        exact Ev.cond (fun h' => absurd h' hc) (fun _ => hv)
      · rcases hp with hp | ⟨hp, hq⟩
        · exact .inl hp
        · refine .inr ⟨hp, ?_⟩
          rw [drop_sn hl]
          unfold totS
          omega
theorem szS_ev (xs : List ByteArray) (hs : ∀ x ∈ xs, x.size ≤ maxLen) (hn : xs.length ≤ maxLen) (left : Int) (h0 : 0 ≤ left) (h1 : left ≤ 1048576) : ∃ v : Int, Ev (fun k => laws_szStringS.f k xs left) v ∧ (v = -1 ∨ (0 ≤ v ∧ v + (xs.length : Int) + (totS xs : Int) = left)) := by
  have hmx : maxLen ≤ 9223372036854775807 := by decide
  have e : wrap64 (left - (xs.length : Int)) = left - (xs.length : Int) := w64 (by omega) (by omega)
  unfold laws_szStringS.f
  simp only [e]
  by_cases hc : left - (xs.length : Int) < 0
  · exact ⟨-1, Ev.cond (fun _ => Ev.now _) (fun h' => absurd hc h'), .inl rfl⟩
  · obtain ⟨v, hv, hp⟩ := szS_l0 xs (fun x hx => Nat.le_trans (hs x hx) hmx) (by omega) xs.length 0 (left - (xs.length : Int)) (by omega) (by omega) (by omega)
    refine ⟨v, Ev.cond (fun h' => absurd h' hc) (fun _ => hv), ?_⟩
    rcases hp with hp | ⟨hp, hq⟩
    · exact .inl hp
    · rw [List.drop_zero] at hq
      exact .inr ⟨hp, by omega⟩

/-! toStringS -/
theorem toStringS_l0 (xs : List ByteArray) (hn : xs.length ≤ 1099511627776) : ∀ d n, n + d = xs.length → Ev (fun k => laws_toStringS.l0 k xs (xs.take n ++ List.replicate d (⟨#[]⟩ : ByteArray)) (n : Int)) xs := by
  intro d
  induction d with
  | zero =>
    intro n h
    have c1 : ¬ (n : Int) < (xs.length : Int) := by omega
    rw [List.take_of_length_le (by omega), List.replicate_zero, List.append_nil]
    apply Ev.succ
    simp only [laws_toStringS.l0]
    exact Ev.cond (fun h' => absurd h' c1) (fun _ => Ev.now _)
  | succ d ih =>
    intro n h
    have hl : n < xs.length := by omega
    have c1 : (n : Int) < (xs.length : Int) := by omega
    have c2 : (0 : Int) ≤ (n : Int) := by omega
    have h3 := ih (n + 1) (by omega)
    have c4 : (n : Int) < ((xs.take n ++ List.replicate (d + 1) (⟨#[]⟩ : ByteArray)).length : Int) := by
      simp only [List.length_append, List.length_take, List.length_replicate]; omega
    have h5 : (xs.take n ++ List.replicate (d + 1) (⟨#[]⟩ : ByteArray)).set n (sn xs n) = xs.take (n + 1) ++ List.replicate d (⟨#[]⟩ : ByteArray) := by
      rw [List.replicate_succ, set_mid _ _ _ _ _ (by rw [List.length_take]; omega), take_sn hl, List.append_assoc, List.singleton_append]
    apply Ev.succ
    simp only [laws_toStringS.l0, sr_nat, Int.toNat_natCast, h5, w64_succ (show n < 9223372036854775807 by omega)]
    refine Ev.cond (fun _ => ?_) (fun h' => absurd c1 h')
    refine Ev.cond (fun _ => ?_) (fun h' => absurd c2 h')
    exact Ev.cond (fun _ => h3) (fun h' => absurd c4 h')
theorem toStringS_ev (xs : List ByteArray) (hn : xs.length ≤ 1099511627776) : Ev (fun k => laws_toStringS.f k xs) xs := by
  have c1 : (0 : Int) ≤ (xs.length : Int) := by omega
  have c2 : xs.length ≤ 17592186044416 := by omega
  unfold laws_toStringS.f
  simp only [Int.toNat_natCast]
  refine Ev.cond (fun _ => ?_) (fun h' => absurd c1 h')
  exact Ev.cond (fun _ => toStringS_l0 xs hn xs.length 0 (by omega)) (fun h' => absurd c2 h')

/-! eqStringS -/
theorem eqStringS_l0 (xs ys : List ByteArray) (hl : xs.length = ys.length) (hn : xs.length ≤ 1099511627776) : ∀ d n, n + d = xs.length → Ev (fun k => laws_eqStringS.l0 k xs ys (n : Int)) (decide (xs.drop n = ys.drop n)) := by
  intro d
  induction d with
  | zero =>
    intro n h
    have c1 : ¬ (n : Int) < (xs.length : Int) := by omega
    rw [List.drop_eq_nil_of_le (show xs.length ≤ n by omega), List.drop_eq_nil_of_le (show ys.length ≤ n by omega), decide_eq_true rfl]
    apply Ev.succ
    simp only [laws_eqStringS.l0]
    exact Ev.cond (fun h' => absurd h' c1) (fun _ => Ev.now _)
  | succ d ih =>
    intro n h
    have c1 : (n : Int) < (xs.length : Int) := by omega
    have c2 : (0 : Int) ≤ (n : Int) := by omega
    have c3 : (n : Int) < (ys.length : Int) := by omega
    have h3 := ih (n + 1) (by omega)
    rw [drop_sn (show n < xs.length by omega), drop_sn (show n < ys.length by omega)]
    apply Ev.succ
    simp only [laws_eqStringS.l0, sr_nat, w64_succ (show n < 9223372036854775807 by omega), List.cons.injEq]
    refine Ev.cond (fun _ => ?_) (fun h' => absurd c1 h')
    refine Ev.cond (fun _ => ?_) (fun h' => absurd c2 h')
    refine Ev.cond (fun _ => ?_) (fun h' => absurd c3 h')
    by_cases hc : (sn xs n) = (sn ys n)
    · refine Ev.cond (fun _ => ?_) (fun h' => absurd (by rw [hc]) h')
      simp only [hc, true_and]; exact h3
    · refine Ev.cond (fun h' => absurd (bytes_ext h') hc) (fun _ => ?_)
      simp only [hc, false_and, decide_false]; exact Ev.now false
theorem eqStringS_ev (xs ys : List ByteArray) (hn : xs.length ≤ 1099511627776) : Ev (fun k => laws_eqStringS.f k xs ys) (decide (xs = ys)) := by
  unfold laws_eqStringS.f
  by_cases hl : xs.length = ys.length
  · have c1 : (xs.length : Int) = (ys.length : Int) := by omega
    exact Ev.cond (fun _ => eqStringS_l0 xs ys hl hn xs.length 0 (by omega)) (fun h' => absurd c1 h')
  · have c1 : ¬ (xs.length : Int) = (ys.length : Int) := by omega
    rw [decide_eq_false (fun h => hl (by rw [h]))]
    exact Ev.cond (fun h' => absurd h' c1) (fun _ => Ev.now false)
theorem eqStringS_same (xs : List ByteArray) (hn : xs.length ≤ 1099511627776) : Ev (fun k => laws_eqStringS.f k xs xs) true := by
  have h := eqStringS_ev xs xs hn
  rw [decide_eq_true rfl] at h
  exact h

/-- What the two searches hold alike. -/
structure SyI (R : List ByteArray) (q : List Nat) (F : List Int) (B : List ByteArray) : Prop where
  len : B.length = q.length
  flen : F.length = 2 ^ R.length
  few : R.length ≤ 15
  nd : q.Nodup
  pos : ∀ m ∈ q, 0 < m ∧ m < 2 ^ R.length
  zero : ∀ m, m < 2 ^ R.length → (F.getD m 0 ≠ 0 ↔ m ∈ q)
  back : ∀ j, j < q.length → Bk F (q.getD j 0) (sn B j) ∧ (sn B j).size ≤ j
theorem SyI.qlen {R : List ByteArray} {q : List Nat} {F : List Int} {B : List ByteArray} (h : SyI R q F B) : q.length ≤ 2 ^ R.length ∧ (2 : Nat) ^ R.length ≤ 32768 := by
  refine ⟨nodup_lt _ _ h.nd (fun m hm => (h.pos m hm).2), ?_⟩
  have := Nat.pow_le_pow_right (n := 2) (by decide) h.few
  have e : (2 : Nat) ^ 15 = 32768 := by decide
  omega
/-- The program's open sets. -/
def Qof (R : List ByteArray) (q : List Nat) (B : List ByteArray) : List (List ByteArray × ByteArray) := List.zipWith (fun m s => (phi R m, s)) q B
theorem Qof_length {R : List ByteArray} {q : List Nat} {B : List ByteArray} (h : B.length = q.length) : (Qof R q B).length = q.length := by
  unfold Qof; rw [List.length_zipWith]; omega
theorem Qof_head {R : List ByteArray} {q : List Nat} {B : List ByteArray} (h : B.length = q.length) {at_ : Nat} (hat : at_ < q.length) (d : List ByteArray × ByteArray) : ((Qof R q B).drop at_).headD d = (phi R (q.getD at_ 0), sn B at_) := by
  have hl := Qof_length (R := R) h
  rw [List.drop_eq_getElem_cons (by omega)]
  show (Qof R q B)[at_]'_ = _
  unfold Qof
  rw [List.getElem_zipWith, sn_get (show at_ < B.length by omega), List.getD_eq_getElem?_getD, List.getElem?_eq_getElem hat]
  rfl
theorem Qof_app {R : List ByteArray} {q : List Nat} {B : List ByteArray} (h : B.length = q.length) (m : Nat) (s : ByteArray) : Qof R (q ++ [m]) (B ++ [s]) = Qof R q B ++ [(phi R m, s)] := by
  unfold Qof
  rw [List.zipWith_append (by omega)]
  rfl
theorem SyI.more {ws R : List ByteArray} {q : List Nat} {F : List Int} {B : List ByteArray} (h : SyI R q F B) {at_ : Nat} (hat : at_ < q.length) {t b : Nat} (hb : b < 2) (h0 : 0 < t) (ht : t < 2 ^ R.length) (hq : t ∉ q) :
    SyI R (q ++ [t]) (F.set t ((2 * q.getD at_ 0 + b : Nat) : Int)) (B ++ [sn B at_ ++ bsT b]) := by
  have hF0 : F.getD t 0 = 0 := by
    rcases Int.decEq (F.getD t 0) 0 with h1 | h1
    · exact absurd ((h.zero t ht).1 h1) hq
    · exact h1
  have htF : t < F.length := by rw [h.flen]; exact ht
  have hm : q.getD at_ 0 ∈ q := by rw [List.getD_eq_getElem?_getD, List.getElem?_eq_getElem hat]; exact List.getElem_mem hat
  have hmp := (h.pos _ hm).1
  refine ⟨?_, ?_, h.few, ?_, ?_, ?_, ?_⟩
  · rw [List.length_append, List.length_append, h.len]; rfl
  · rw [List.length_set, h.flen]
  · refine List.pairwise_append.2 ⟨h.nd, List.pairwise_singleton _ _, fun a ha b hb => ?_⟩
    rw [List.mem_singleton] at hb
    subst hb
    exact fun e => hq (e ▸ ha)
  · intro m hm2
    rw [List.mem_append, List.mem_singleton] at hm2
    rcases hm2 with hm2 | rfl
    · exact h.pos m hm2
    · exact ⟨h0, ht⟩
  · intro m hm2
    rw [getD_set htF, List.mem_append, List.mem_singleton]
    by_cases e : t = m
    · rw [if_pos e]
      exact ⟨fun _ => .inr e.symm, fun _ => by omega⟩
    · rw [if_neg e, h.zero m hm2]
      exact ⟨fun h1 => .inl h1, fun h1 => h1.elim id (fun h2 => absurd h2.symm e)⟩
  · intro j hj
    rw [List.length_append, List.length_singleton] at hj
    by_cases e : j < q.length
    · have e1 : (q ++ [t]).getD j 0 = q.getD j 0 := by
        rw [List.getD_eq_getElem?_getD, List.getD_eq_getElem?_getD, List.getElem?_append_left e]
      have e2 : sn (B ++ [sn B at_ ++ bsT b]) j = sn B j := by
        have hl := h.len
        unfold sn
        simp only [List.getD_eq_getElem?_getD]
        rw [List.getElem?_append_left (by omega)]
      rw [e1, e2]
      exact ⟨(h.back j e).1.kept htF hF0 _, (h.back j e).2⟩
    · obtain rfl : j = q.length := by omega
      have hl := h.len
      have e1 : (q ++ [t]).getD q.length 0 = t := by
        rw [List.getD_eq_getElem?_getD, List.getElem?_append_right (Nat.le_refl _), Nat.sub_self]; rfl
      have e2 : sn (B ++ [sn B at_ ++ bsT b]) q.length = sn B at_ ++ bsT b := by
        unfold sn
        rw [List.getD_eq_getElem?_getD, List.getElem?_append_right (by omega), hl, Nat.sub_self]; rfl
      rw [e1, e2]
      refine ⟨.step (m' := q.getD at_ 0) ?_ hb hmp ((h.back at_ hat).1.kept htF hF0 _), ?_⟩
      · rw [getD_set htF, if_pos rfl]
      · have := (h.back at_ hat).2
        rw [ByteArray.size_append, bsT_size]; omega
theorem join_eq (l : List ByteArray) (h1 : l.length ≤ 1000) (h2 : (joinT l (⟨#[44]⟩ : ByteArray)).size ≤ 1000) : strings_Join.f l (⟨#[44]⟩ : ByteArray) = some (joinT l (⟨#[44]⟩ : ByteArray)) := by
  unfold strings_Join.f
  rw [if_pos ⟨by omega, by omega⟩]
theorem sy_num {m b : Nat} (hm : m ≤ 32768) (hb : b < 2) : wrap64 (wrap64 (2 * (m : Int)) + (b : Int)) = ((2 * m + b : Nat) : Int) := by
  rw [w64 (x := 2 * (m : Int)) (by omega) (by omega), w64 (by omega) (by omega)]; omega
/-- One bit's round. -/
theorem sy_round {ws R : List ByteArray} (h : Rd ws R) (hn : ws.length ≤ 1099511627776) {at_ set_ : Nat} {s : ByteArray} {b : Nat} (hb : b < 2) {q : List Nat} {F : List Int} {B : List ByteArray} (I : SyI R q F B) (hat : at_ < q.length)
    (hset : q.getD at_ 0 = set_) (hs : sn B at_ = s)
    (Hn : ∀ q' F' B', SyI R q' F' B' → at_ < q'.length → q'.getD at_ 0 = set_ → sn B' at_ = s → ∃ r, Ev (fun k => spec_SyncWord.l3 k (R.length : Int) (nxT ws R) ((goalN R : Nat) : Int) F' (castL q') (at_ : Int) (set_ : Int) ((b + 1 : Nat) : Int)) r ∧ Ev (fun k => impl_SyncWord.l6 k ws ((Qof R q' B').drop at_) (q'.map (keyN R)) (phi R set_, s) ((b + 1 : Nat) : Int)) r) :
    ∃ r, Ev (fun k => spec_SyncWord.l3 k (R.length : Int) (nxT ws R) ((goalN R : Nat) : Int) F (castL q) (at_ : Int) (set_ : Int) (b : Int)) r ∧ Ev (fun k => impl_SyncWord.l6 k ws ((Qof R q B).drop at_) (q.map (keyN R)) (phi R set_, s) (b : Int)) r := by
  obtain ⟨hq1, hq2⟩ := I.qlen
  have hf := h.few
  have hmem : set_ ∈ q := by rw [← hset, List.getD_eq_getElem?_getD, List.getElem?_eq_getElem hat]; exact List.getElem_mem hat
  obtain ⟨hm0, hm⟩ := I.pos _ hmem
  have hbk := I.back at_ hat
  rw [hset, hs] at hbk
  have ht := h.stp_lt b set_
  have ht0 := h.stp_pos b hm0 hm
  have hcs := h.stp_cs b set_
  have hgi := h.goal_iff ht
  have hks := h.key_size (stp ws R b set_)
  have hpl := phi_length R (stp ws R b set_)
  have hhas := h.has_iff I.pos ht0 ht
  have hz := I.zero _ ht
  have hflen := I.flen
  have hmore := fun hnq => I.more (ws := ws) hat (t := stp ws R b set_) (b := b) hb ht0 ht hnq
  rw [hset, hs] at hmore
  have hb2 : (b : Int) < 2 := by omega
  have hb0 : (0 : Int) ≤ (b : Int) := by omega
  have hw1 := w64_succ (show b < 9223372036854775807 by omega)
  -- it is enough to answer behind the loops
  have S4 : ∀ r, Ev (fun k => spec_SyncWord.l4 k (R.length : Int) (nxT ws R) ((goalN R : Nat) : Int) F (castL q) (at_ : Int) (set_ : Int) (b : Int) ((stp ws R b set_ : Nat) : Int) (R.length : Int)) r → Ev (fun k => spec_SyncWord.l3 k (R.length : Int) (nxT ws R) ((goalN R : Nat) : Int) F (castL q) (at_ : Int) (set_ : Int) (b : Int)) r := by
    intro r hr
    have h1 := SyS_l4 h b hb ((goalN R : Nat) : Int) F (castL q) (at_ : Int) set_ hm hr R.length 0 (by omega)
    apply Ev.succ
    simp only [spec_SyncWord.l3]
    exact Ev.cond (fun _ => h1) (fun h' => absurd hb2 h')
  have S8 : ∀ r, Ev (fun k => impl_SyncWord.l8 k ws ((Qof R q B).drop at_) (q.map (keyN R)) (phi R set_, s) (b : Int) (bsT b) ((phi R set_).map fun x => rdB ws x (bsT b)) ((phi R set_).length : Int)) r → Ev (fun k => impl_SyncWord.l6 k ws ((Qof R q B).drop at_) (q.map (keyN R)) (phi R set_, s) (b : Int)) r := by
    intro r hr
    have h1 := SyI_l8 h hn ((Qof R q B).drop at_) (q.map (keyN R)) set_ s b hr (phi R set_).length 0 (by omega)
    apply Ev.succ
    simp only [impl_SyncWord.l6, bsT_of hb]
    refine Ev.cond (fun _ => ?_) (fun h' => absurd hb2 h')
    exact Ev.cond (fun _ => h1) (fun h' => absurd hb0 h')
  have hlm : ((phi R set_).map fun x => rdB ws x (bsT b)).length ≤ 1000 := by have := phi_length R set_; rw [List.length_map]; omega
  have e1 := sort_eq ((phi R set_).map fun x => rdB ws x (bsT b)) (by omega)
  have e2 := compact_eq (sortT ((phi R set_).map fun x => rdB ws x (bsT b))) (by rw [sortT_length]; omega)
  have e3 : compactT (sortT ((phi R set_).map fun x => rdB ws x (bsT b))) = phi R (stp ws R b set_) := hcs
  rw [e3] at e2
  have e4 := join_eq (phi R (stp ws R b set_)) (by omega) (by unfold keyN at hks; omega)
  have e5 : joinT (phi R (stp ws R b set_)) (⟨#[44]⟩ : ByteArray) = keyN R (stp ws R b set_) := rfl
  rw [e5] at e4
  have c1 : ¬ (R.length : Int) < (R.length : Int) := by omega
  have c2 : ¬ ((phi R set_).length : Int) < ((phi R set_).length : Int) := by omega
  have hse : s.size ≤ 32768 := by omega
  generalize hT : stp ws R b set_ = T at *
  by_cases hg : T = goalN R
  · -- found
    refine ⟨(s ++ bsT b, true), S4 _ ?_, S8 _ ?_⟩
    · have hbf := back_f (F := F) (by rw [hflen]; omega) hbk.1 (by omega)
      have cg : ((T : Nat) : Int) = ((goalN R : Nat) : Int) := by rw [hg]
      have cs_ : s.size + (bsT b).size ≤ 9223372036854775807 := by rw [bsT_size]; omega
      apply Ev.succ
      simp only [spec_SyncWord.l4, Option.bind_some, bsT_str hb]
      refine Ev.cond (fun h' => absurd h' c1) (fun _ => ?_)
      refine Ev.cond (fun _ => ?_) (fun h' => absurd cg h')
      refine Ev.bind hbf ?_
      exact Ev.cond (fun _ => Ev.now _) (fun h' => absurd cs_ h')
    · have c3 := (one_iff (phi R T)).2 (hgi.1 hg)
      have c4 : (phi R set_, s).2.size + (bsT b).size ≤ 9223372036854775807 := by show s.size + _ ≤ _; rw [bsT_size]; omega
      apply Ev.succ
      simp only [impl_SyncWord.l8, e1, e2, Option.bind_some]
      refine Ev.cond (fun h' => absurd h' c2) (fun _ => ?_)
      refine Ev.cond (fun _ => ?_) (fun h' => absurd c3 h')
      exact Ev.cond (fun _ => Ev.now _) (fun h' => absurd c4 h')
  · have cg : ¬ ((T : Nat) : Int) = ((goalN R : Nat) : Int) := fun h' => hg (by omega)
    have c3 : ¬ (((phi R T).length : Int) = 1 ∧ (rdOf ByteArray.empty (phi R T) 0).toList = ([] : List UInt8)) := fun h' => hg (hgi.2 ((one_iff _).1 h'))
    have c4 : (0 : Int) ≤ ((T : Nat) : Int) := by omega
    have c5 : ((T : Nat) : Int) < (F.length : Int) := by rw [hflen]; omega
    have c6 : (keyN R T).size ≤ 1000000 ∧ (q.map (keyN R)).length < 1000000 := ⟨by omega, by rw [List.length_map]; omega⟩
    have er : rd F ((T : Nat) : Int) = F.getD T 0 := rd_nat F T
    by_cases hin : T ∈ q
    · obtain ⟨r, hr1, hr2⟩ := Hn q F B I hat hset hs
      have c7 : ¬ F.getD T 0 = 0 := hz.2 hin
      have c8 : hasT (q.map (keyN R)) (keyN R T) = true := by rw [hhas]; exact decide_eq_true hin
      refine ⟨r, S4 _ ?_, S8 _ ?_⟩
      · apply Ev.succ
        simp only [spec_SyncWord.l4, er, hw1]
        refine Ev.cond (fun h' => absurd h' c1) (fun _ => ?_)
        refine Ev.cond (fun h' => absurd h' cg) (fun _ => ?_)
        refine Ev.cond (fun _ => ?_) (fun h' => absurd c4 h')
        refine Ev.cond (fun _ => ?_) (fun h' => absurd c5 h')
        exact Ev.cond (fun h' => absurd h' c7) (fun _ => hr1)
      · apply Ev.succ
        simp only [impl_SyncWord.l8, e1, e2, e4, Option.bind_some, hw1]
        refine Ev.cond (fun h' => absurd h' c2) (fun _ => ?_)
        refine Ev.cond (fun h' => absurd h' c3) (fun _ => ?_)
        refine Ev.cond (fun _ => ?_) (fun h' => absurd c6 h')
        exact Ev.cond (fun _ => hr2) (fun h' => absurd c8 h')
    · have hI2 := hmore hin
      obtain ⟨r, hr1, hr2⟩ := Hn _ _ _ hI2 (by rw [List.length_append]; omega) (by rw [List.getD_eq_getElem?_getD, List.getElem?_append_left hat, ← List.getD_eq_getElem?_getD]; exact hset) (by
        have hl := I.len
        rw [← hs]
        unfold sn
        simp only [List.getD_eq_getElem?_getD]
        rw [List.getElem?_append_left (by omega)])
      have c7 : F.getD T 0 = 0 := by
        rcases Int.decEq (F.getD T 0) 0 with h1 | h1
        · exact absurd (hz.1 h1) hin
        · exact h1
      have c8 : ¬ hasT (q.map (keyN R)) (keyN R T) = true := by rw [hhas]; exact fun h' => hin (of_decide_eq_true h')
      have hQl := Qof_length (R := R) I.len
      have c9 : (phi R set_, s).2.size + (bsT b).size ≤ 9223372036854775807 ∧ ((Qof R q B).drop at_).length < 1000000 := ⟨by show s.size + _ ≤ _; rw [bsT_size]; omega, by rw [List.length_drop]; omega⟩
      have c10 : (castL q).length < 17592186044416 := by rw [castL_length]; omega
      have ev := sy_num (Nat.le_trans (Nat.le_of_lt hm) hq2) hb
      have eq1 : castL q ++ [((T : Nat) : Int)] = castL (q ++ [T]) := by unfold castL; rw [List.map_append]; rfl
      have eq2 : (Qof R q B).drop at_ ++ [(phi R T, s ++ bsT b)] = (Qof R (q ++ [T]) (B ++ [s ++ bsT b])).drop at_ := by
        rw [Qof_app I.len, List.drop_append_of_le_length (by omega)]
      have eq3 : q.map (keyN R) ++ [keyN R T] = (q ++ [T]).map (keyN R) := by rw [List.map_append]; rfl
      refine ⟨r, S4 _ ?_, S8 _ ?_⟩
      · apply Ev.succ
        simp only [spec_SyncWord.l4, er, hw1, ev, eq1, Int.toNat_natCast]
        refine Ev.cond (fun h' => absurd h' c1) (fun _ => ?_)
        refine Ev.cond (fun h' => absurd h' cg) (fun _ => ?_)
        refine Ev.cond (fun _ => ?_) (fun h' => absurd c4 h')
        refine Ev.cond (fun _ => ?_) (fun h' => absurd c5 h')
        refine Ev.cond (fun _ => ?_) (fun h' => absurd c7 h')
        exact Ev.cond (fun _ => hr1) (fun h' => absurd c10 h')
      · apply Ev.succ
        simp only [impl_SyncWord.l8, e1, e2, e4, Option.bind_some, hw1, eq2, eq3]
        refine Ev.cond (fun h' => absurd h' c2) (fun _ => ?_)
        refine Ev.cond (fun h' => absurd h' c3) (fun _ => ?_)
        refine Ev.cond (fun _ => ?_) (fun h' => absurd c6 h')
        refine Ev.cond (fun h' => absurd h' c8) (fun _ => ?_)
        exact Ev.cond (fun _ => hr2) (fun h' => absurd c9 h')
/-- The searches. -/
theorem sy_main {ws R : List ByteArray} (h : Rd ws R) (hn : ws.length ≤ 1099511627776) : ∀ (d at_ : Nat) (q : List Nat) (F : List Int) (B : List ByteArray), SyI R q F B → at_ ≤ q.length → 2 ^ R.length ≤ at_ + d →
    ∃ r, Ev (fun k => spec_SyncWord.l2 k (R.length : Int) (nxT ws R) ((goalN R : Nat) : Int) F (castL q) (at_ : Int)) r ∧ Ev (fun k => impl_SyncWord.l4 k ws ((Qof R q B).drop at_) (q.map (keyN R))) r := by
  intro d
  induction d with
  | zero =>
    intro at_ q F B I hat hd
    obtain ⟨hq1, hq2⟩ := I.qlen
    obtain rfl : at_ = q.length := by omega
    have c1 : ¬ ((q.length : Nat) : Int) < ((castL q).length : Int) := by rw [castL_length]; omega
    have hQl := Qof_length (R := R) I.len
    have c2 : ¬ (((Qof R q B).drop q.length).length : Int) > 0 := by rw [List.length_drop]; omega
    refine ⟨(⟨#[]⟩, false), ?_, ?_⟩
    · apply Ev.succ
      simp only [spec_SyncWord.l2]
      exact Ev.cond (fun h' => absurd h' c1) (fun _ => Ev.now _)
    · apply Ev.succ
      simp only [impl_SyncWord.l4]
      exact Ev.cond (fun h' => absurd h' c2) (fun _ => Ev.now _)
  | succ d ih =>
    intro at_ q F B I hat hd
    obtain ⟨hq1, hq2⟩ := I.qlen
    have hQl := Qof_length (R := R) I.len
    by_cases hlt : at_ < q.length
    · have c1 : (at_ : Int) < ((castL q).length : Int) := by rw [castL_length]; omega
      have c2 : (((Qof R q B).drop at_).length : Int) > 0 := by rw [List.length_drop]; omega
      have c3 : (0 : Int) ≤ (at_ : Int) := by omega
      have e1 : rd (castL q) (at_ : Int) = ((q.getD at_ 0 : Nat) : Int) := by
        rw [rd_castL hlt, List.getD_eq_getElem?_getD, List.getElem?_eq_getElem hlt]; rfl
      have e2 := Qof_head (R := R) I.len hlt ([], (⟨#[]⟩ : ByteArray))
      have H2 : ∀ q' F' B', SyI R q' F' B' → at_ < q'.length → q'.getD at_ 0 = q.getD at_ 0 → sn B' at_ = sn B at_ → ∃ r, Ev (fun k => spec_SyncWord.l3 k (R.length : Int) (nxT ws R) ((goalN R : Nat) : Int) F' (castL q') (at_ : Int) ((q.getD at_ 0 : Nat) : Int) ((1 + 1 : Nat) : Int)) r ∧ Ev (fun k => impl_SyncWord.l6 k ws ((Qof R q' B').drop at_) (q'.map (keyN R)) (phi R (q.getD at_ 0), sn B at_) ((1 + 1 : Nat) : Int)) r := by
        intro q' F' B' I' h1 _ _
        obtain ⟨r, hr1, hr2⟩ := ih (at_ + 1) q' F' B' I' h1 (by omega)
        refine ⟨r, ?_, ?_⟩
        · apply Ev.succ
          simp only [spec_SyncWord.l3, w64_succ (show at_ < 9223372036854775807 by omega)]
          exact Ev.cond (fun h' => absurd h' (by decide)) (fun _ => hr1)
        · apply Ev.succ
          simp only [impl_SyncWord.l6, List.drop_drop]
          exact Ev.cond (fun h' => absurd h' (by decide)) (fun _ => hr2)
      have H1 := fun q' F' B' I' h1 h2 h3 => sy_round h hn (at_ := at_) (set_ := q.getD at_ 0) (s := sn B at_) (b := 1) (by decide) (q := q') (F := F') (B := B') I' h1 h2 h3 H2
      obtain ⟨r, hr1, hr2⟩ := sy_round h hn (at_ := at_) (set_ := q.getD at_ 0) (s := sn B at_) (b := 0) (by decide) I hlt rfl rfl H1
      refine ⟨r, ?_, ?_⟩
      · apply Ev.succ
        simp only [spec_SyncWord.l2, e1]
        refine Ev.cond (fun _ => ?_) (fun h' => absurd c1 h')
        exact Ev.cond (fun _ => hr1) (fun h' => absurd c3 h')
      · apply Ev.succ
        simp only [impl_SyncWord.l4, e2]
        exact Ev.cond (fun _ => hr2) (fun h' => absurd c2 h')
    · obtain rfl : at_ = q.length := by omega
      have c1 : ¬ ((q.length : Nat) : Int) < ((castL q).length : Int) := by rw [castL_length]; omega
      have c2 : ¬ (((Qof R q B).drop q.length).length : Int) > 0 := by rw [List.length_drop]; omega
      refine ⟨(⟨#[]⟩, false), ?_, ?_⟩
      · apply Ev.succ
        simp only [spec_SyncWord.l2]
        exact Ev.cond (fun h' => absurd h' c1) (fun _ => Ev.now _)
      · apply Ev.succ
        simp only [impl_SyncWord.l4]
        exact Ev.cond (fun h' => absurd h' c2) (fun _ => Ev.now _)
/-- All readers are the first set. -/
theorem sy_start {ws R : List ByteArray} (h : Rd ws R) : SyI R [2 ^ R.length - 1] ((List.replicate (2 ^ R.length) (0 : Int)).set (2 ^ R.length - 1) (-1)) [⟨#[]⟩] := by
  have hp := Nat.two_pow_pos R.length
  have h1 : 1 ≤ R.length := by
    cases hR : R with
    | nil => have := h.nil; rw [hR] at this; simp at this
    | cons x r => rw [List.length_cons]; omega
  have h2 : (2 : Nat) ^ 1 ≤ 2 ^ R.length := Nat.pow_le_pow_right (by decide) h1
  have h3 : (2 : Nat) ^ 1 = 2 := by decide
  have hl : 2 ^ R.length - 1 < (List.replicate (2 ^ R.length) (0 : Int)).length := by rw [List.length_replicate]; omega
  have e : ∀ m, (List.replicate (2 ^ R.length) (0 : Int)).getD m 0 = 0 := fun m => by
    rw [List.getD_eq_getElem?_getD, List.getElem?_replicate]
    by_cases hm : m < 2 ^ R.length
    · rw [if_pos hm]; rfl
    · rw [if_neg hm]; rfl
  refine ⟨rfl, by rw [List.length_set, List.length_replicate], h.few, List.pairwise_singleton _ _, ?_, ?_, ?_⟩
  · intro m hm
    rw [List.mem_singleton] at hm
    omega
  · intro m hm
    rw [getD_set hl, List.mem_singleton]
    by_cases e2 : 2 ^ R.length - 1 = m
    · rw [if_pos e2]; exact ⟨fun _ => e2.symm, fun _ => by decide⟩
    · rw [if_neg e2, e]; exact ⟨fun h' => absurd rfl h', fun h' => absurd h'.symm e2⟩
  · intro j hj
    rw [List.length_singleton] at hj
    obtain rfl : j = 0 := by omega
    refine ⟨.root ?_, Nat.le_refl _⟩
    show List.getD _ (2 ^ R.length - 1) 0 = -1
    rw [getD_set hl, if_pos rfl]
theorem Sync_both (ws : List ByteArray) (hn : ws.length ≤ 1099511627776) (hs : totS ws ≤ 1099511627776) : ∃ r, Ev (fun k => spec_SyncWord.f k ws) r ∧ Ev (fun k => impl_SyncWord.f k ws) r := by
  have noS : Ev (fun k => spec_SyncWord.j0 k ws true) ((⟨#[]⟩ : ByteArray), false) := by
    apply Ev.succ
    simp only [spec_SyncWord.j0]
    exact Ev.cond (fun _ => Ev.now _) (fun h' => absurd (by trivial) h')
  have i1 := l05Is_ev ws hn hs
  have j1 := IsCompleteI_ev ws hn hs
  unfold spec_SyncWord.f impl_SyncWord.f
  rcases hc : codeB ws with _ | _
  · rw [hc] at i1 j1
    rw [Bool.false_and] at j1
    exact ⟨((⟨#[]⟩ : ByteArray), false), Ev.bind i1 (Ev.cond (fun h' => absurd h' (by decide)) (fun _ => noS)), Ev.bind j1 (Ev.cond (fun h' => absurd h' (by decide)) (fun _ => Ev.now _))⟩
  rw [hc] at i1 j1
  rw [Bool.true_and] at j1
  have i2 := l05Complete_ev ws hc hs
  obtain ⟨hl1, hl2⟩ := codeB_len hc
  by_cases h2 : ¬ 2 ≤ ws.length
  · have c1 : (ws.length : Int) < 2 := by omega
    refine ⟨((⟨#[]⟩ : ByteArray), false), Ev.bind i1 (Ev.cond (fun _ => Ev.cond (fun _ => noS) (fun h' => absurd c1 h')) (fun h' => absurd rfl h')), Ev.bind j1 (Ev.cond (fun _ => Ev.cond (fun _ => Ev.now _) (fun h' => absurd c1 h')) (fun _ => Ev.now _))⟩
  have c1 : ¬ (ws.length : Int) < 2 := by omega
  rcases hk : complB ws with _ | _
  · rw [hk] at i2 j1
    exact ⟨((⟨#[]⟩ : ByteArray), false), Ev.bind i1 (Ev.cond (fun _ => Ev.cond (fun h' => absurd h' c1) (fun _ => Ev.bind i2 noS)) (fun h' => absurd rfl h')), Ev.bind j1 (Ev.cond (fun h' => absurd h' (by decide)) (fun _ => Ev.now _))⟩
  rw [hk] at i2 j1
  have hR := rd_of hc hk
  have hst := sy_start hR
  obtain ⟨hq1, hq2⟩ := hst.qlen
  have hf := hR.few
  have hp := Nat.two_pow_pos (rdrs ws).length
  have hbg := pl_at hR.nil
  obtain ⟨r, hr1, hr2⟩ := sy_main hR hn (2 ^ (rdrs ws).length) 0 _ _ _ hst (Nat.zero_le _) (by omega)
  refine ⟨r, Ev.bind i1 (Ev.cond (fun _ => Ev.cond (fun h' => absurd h' c1) (fun _ => Ev.bind i2 ?_)) (fun h' => absurd rfl h')), Ev.bind j1 (Ev.cond (fun _ => Ev.cond (fun h' => absurd h' c1) (fun _ => ?_)) (fun h' => absurd rfl h'))⟩
  · -- the reference
    have i3 := l05Readers_ev ws hn hs
    have i4 := l03Index_ev (rdrs ws) (⟨#[]⟩ : ByteArray) (by omega)
    rw [hbg.2.1] at i4
    have c2 : (2 : Int) ≤ 11728124029610 := by decide
    have e1 := u64_nat (show (rdrs ws).length < 2 ^ 63 by omega)
    have e2 := u64_nat (show pl (rdrs ws) (⟨#[]⟩ : ByteArray) < 2 ^ 63 by omega)
    have e3 := shl_one (show (rdrs ws).length ≤ 61 by omega)
    have e4 := shl_one (show pl (rdrs ws) (⟨#[]⟩ : ByteArray) ≤ 61 by omega)
    have e5 : wrap64 (((2 ^ (rdrs ws).length : Nat) : Int) - 1) = ((2 ^ (rdrs ws).length - 1 : Nat) : Int) := by rw [w64 (by omega) (by omega)]; omega
    have c3 : (0 : Int) ≤ ((pl (rdrs ws) (⟨#[]⟩ : ByteArray) : Nat) : Int) := by omega
    have c4 : (0 : Int) ≤ ((rdrs ws).length : Int) := by omega
    have c5 : (0 : Int) ≤ ((2 ^ (rdrs ws).length : Nat) : Int) := by omega
    have c6 : 2 ^ (rdrs ws).length ≤ 35184372088832 := by omega
    have c7 : (0 : Int) ≤ ((2 ^ (rdrs ws).length - 1 : Nat) : Int) := by omega
    have c8 : ((2 ^ (rdrs ws).length - 1 : Nat) : Int) < ((List.replicate (2 ^ (rdrs ws).length) (0 : Int)).length : Int) := by rw [List.length_replicate]; omega
    have i5 : Ev (fun k => spec_SyncWord.l0 k ws (rdrs ws) ((rdrs ws).length : Int) (nxT ws (rdrs ws)) 2) r := by
      apply Ev.succ
      simp only [spec_SyncWord.l0]
      refine Ev.cond (fun h' => absurd h' (by decide)) (fun _ => Ev.bind i4 ?_)
      simp only [e1, e2, e3, e4, e5, Int.toNat_natCast, Option.bind_some]
      refine Ev.cond (fun _ => ?_) (fun h' => absurd c3 h')
      refine Ev.cond (fun _ => ?_) (fun h' => absurd c4 h')
      refine Ev.cond (fun _ => ?_) (fun h' => absurd c5 h')
      refine Ev.cond (fun _ => ?_) (fun h' => absurd c6 h')
      refine Ev.cond (fun _ => ?_) (fun h' => absurd c7 h')
      exact Ev.cond (fun _ => hr1) (fun h' => absurd c8 h')
    have i6 := SyS_l0 hR hn i5
    apply Ev.succ
    simp only [spec_SyncWord.j0]
    refine Ev.cond (fun h' => absurd h' (by decide)) (fun _ => Ev.bind i3 ?_)
    exact Ev.cond (fun _ => i6) (fun h' => absurd (by decide) h')
  · -- the program
    have e1 := sort_eq (allP ws) (by rw [allP_length]; omega)
    have e2 := compact_eq (sortT (allP ws)) (by rw [sortT_length, allP_length]; omega)
    have e3 : compactT (sortT (allP ws)) = phi (rdrs ws) (2 ^ (rdrs ws).length - 1) := all_phi
    rw [e3] at e2
    have hks := hR.key_size (2 ^ (rdrs ws).length - 1)
    have hpl := phi_length (rdrs ws) (2 ^ (rdrs ws).length - 1)
    have e4 := join_eq (phi (rdrs ws) (2 ^ (rdrs ws).length - 1)) (by omega) (by unfold keyN at hks; omega)
    have e5 : joinT (phi (rdrs ws) (2 ^ (rdrs ws).length - 1)) (⟨#[44]⟩ : ByteArray) = keyN (rdrs ws) (2 ^ (rdrs ws).length - 1) := rfl
    rw [e5] at e4
    have c2 : (keyN (rdrs ws) (2 ^ (rdrs ws).length - 1)).size ≤ 1000000 := by omega
    have c3 : ¬ ((ws.length : Nat) : Int) < (ws.length : Int) := by omega
    have j2 : Ev (fun k => impl_SyncWord.l0 k ws (allP ws) (ws.length : Int)) r := by
      apply Ev.succ
      simp only [impl_SyncWord.l0, e1, e2, e4, Option.bind_some]
      refine Ev.cond (fun h' => absurd h' c3) (fun _ => ?_)
      exact Ev.cond (fun _ => hr2) (fun h' => absurd c2 h')
    exact SyI_l0 ws hn hs j2 ws.length 0 [] (by omega) (by rw [List.drop_zero]; simpa using hs) rfl
theorem FnExactSyncWord : laws_FnExactSyncWord.Pure := by
  intro ws hm0 hx0
  refine Ev.rounds ?_
  unfold laws_FnExactSyncWord.f
  obtain ⟨v, hv, hp⟩ := szS_ev ws hx0 hm0 1048576 (by omega) (by omega)
  refine Ev.bind hv ?_
  rcases hp with rfl | ⟨hp, hq⟩
  · exact Ev.cond (fun _ => Ev.now _) (fun h' => absurd (by decide) h')
  have n1 : ¬ v < 0 := by omega
  refine Ev.cond (fun h' => absurd h' n1) (fun _ => ?_)
  have l1 : ws.length ≤ 1099511627776 := by omega
  have z1 : totS ws ≤ 1099511627776 := by omega
  have t1 := toStringS_ev ws l1
  obtain ⟨r, hr1, hr2⟩ := Sync_both ws l1 z1
  refine Ev.bind t1 (Ev.bind hr1 (Ev.bind t1 (Ev.bind hr2 ?_)))
  refine Ev.cond (fun _ => ?_) (fun h' => absurd rfl h')
  rw [bne_self_eq_false]
  apply Ev.succ
  simp only [laws_FnExactSyncWord.j0]
  refine Ev.cond (fun h' => absurd h' (by decide)) (fun _ => ?_)
  refine Ev.bind t1 (Ev.bind (eqStringS_same ws l1) ?_)
  exact Ev.cond (fun _ => Ev.now _) (fun h' => absurd rfl h')

end Go.Proofs.YtohdepanfnaddaaDoor.Pure
