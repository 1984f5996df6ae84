/- A text of this claim, made small by a program of this session (wip/pack.py): lemmas and contracts that the law's row leans on. -/
import Derived.Test.YtabppnjmdlaohaaGreatDoorZFnSynchronised39
import Derived.Test.YtabppnjmdlaohaaGreatDoorZFnSynchronised41
import Derived.Test.YtabppnjmdlaohaaGreatDoorZFnSynchronised42
namespace Go.Proofs.YtabppnjmdlaohaaGreatDoor.Pure
open Go.RowKit Go.Proofs.YtabppnjmdlaohaaGreatDoor.QFnSynchronised Go.Proofs.YtabppnjmdlaohaaGreatDoor.Base Go.Proofs.YtabppnjmdlaohaaGreatDoorW.PrintWords Go.Proofs.YtabppnjmdlaohaaGreatDoorW.PrintLast Go.Proofs.YtabppnjmdlaohaaGreatDoorW.PrintMore
open Go.Proofs.YtabppnjmdlaohaaGreatDoor.Poly
set_option linter.unusedVariables false
set_option linter.unusedSimpArgs false
def sn (xs : List ByteArray) (n : Nat) : ByteArray := xs.getD n ByteArray.empty
theorem sr_nat (xs : List ByteArray) (n : Nat) : rdOf ByteArray.empty xs (n : Int) = sn xs n := by unfold rdOf sn; rw [Int.toNat_natCast]
theorem sn_get {xs : List ByteArray} {n : Nat} (h : n < xs.length) : sn xs n = xs[n] := by
 unfold sn
 rw [List.getD_eq_getElem?_getD, List.getElem?_eq_getElem h]; rfl
theorem sn_mem {xs : List ByteArray} {n : Nat} (h : n < xs.length) : sn xs n ∈ xs := by rw [sn_get h]; exact List.getElem_mem h
theorem drop_sn {xs : List ByteArray} {n : Nat} (h : n < xs.length) : xs.drop n = sn xs n :: xs.drop (n + 1) := by
 rw [sn_get h, List.drop_eq_getElem_cons h]
theorem take_sn {xs : List ByteArray} {n : Nat} (h : n < xs.length) : xs.take (n + 1) = xs.take n ++ [sn xs n] := by
 rw [sn_get h, List.take_succ_eq_append_getElem h]
def totS : List ByteArray → Nat
 | [] => 0
 | x :: r => x.size + totS r
theorem totS_mem {xs : List ByteArray} {x : ByteArray} (h : x ∈ xs) : x.size ≤ totS xs := by
 induction xs with
 | nil => exact absurd h (by simp)
 | cons y xs ih =>
  unfold totS
  rcases List.mem_cons.1 h with rfl | h
  ·omega
  ·have := ih h; omega
theorem sn_size (xs : List ByteArray) (n : Nat) : (sn xs n).size ≤ totS xs := by
 by_cases h : n < xs.length
 ·exact totS_mem (sn_mem h)
 ·have e : sn xs n = ByteArray.empty := by
   unfold sn
   rw [List.getD_eq_getElem?_getD, List.getElem?_eq_none (by omega)]; rfl
  rw [e]; exact Nat.zero_le _
theorem bytes_ext {a b : ByteArray} (h : a.toList = b.toList) : a = b := by
 rw [Lib.toList_data, Lib.toList_data] at h
 exact ByteArray.ext (Array.ext' h)
instance decMemS : (x : ByteArray) → (xs : List ByteArray) → Decidable (x ∈ xs)
 | x, [] => isFalse (by simp)
 | x, y :: r => if h : x = y then isTrue (by rw [h]; exact List.mem_cons_self) else match decMemS x r with
  | isTrue h2 => isTrue (List.mem_cons_of_mem _ h2)
  | isFalse h2 => isFalse (fun h3 => by rcases List.mem_cons.1 h3 with h3 | h3; exact h h3; exact h2 h3)
def codeI (ws : List ByteArray) (n : Nat) : Bool := decide (1 ≤ (sn ws n).size ∧ (sn ws n).size ≤ 12) && ((sn ws n).data.toList.all isBitB && !decide (sn ws n ∈ ws.take n))
def codeR (ws : List ByteArray) (n d : Nat) : Bool := (List.range' n d).all (codeI ws)
theorem codeR_succ (ws : List ByteArray) (n d : Nat) : codeR ws n (d + 1) = (codeI ws n && codeR ws (n + 1) d) := rfl
def codeB (ws : List ByteArray) : Bool := decide (1 ≤ ws.length ∧ ws.length ≤ 16) && codeR ws 0 ws.length
theorem codeR_at (ws : List ByteArray) : ∀ (d n : Nat), codeR ws n d = true → ∀ i, n ≤ i → i < n + d → codeI ws i = true := by
 intro d n h i h1 h2
 unfold codeR at h
 rw [List.all_eq_true] at h
 exact h i (List.mem_range'_1.2 ⟨h1, h2⟩)
theorem codeB_len {ws : List ByteArray} (h : codeB ws = true) : 1 ≤ ws.length ∧ ws.length ≤ 16 := by
 unfold codeB at h
 rw [Bool.and_eq_true] at h
 exact of_decide_eq_true h.1
theorem codeB_at {ws : List ByteArray} (h : codeB ws = true) {i : Nat} (hi : i < ws.length) : (1 ≤ (sn ws i).size ∧ (sn ws i).size ≤ 12) ∧ (sn ws i).data.toList.all isBitB = true ∧ sn ws i ∉ ws.take i := by
 unfold codeB at h
 rw [Bool.and_eq_true] at h
 have h2 := codeR_at ws _ _ h.2 i (Nat.zero_le _) (by omega)
 unfold codeI at h2
 rw [Bool.and_eq_true, Bool.and_eq_true, Bool.not_eq_true', decide_eq_false_iff_not] at h2
 exact ⟨of_decide_eq_true h2.1, h2.2.1, h2.2.2⟩
theorem codeB_size {ws : List ByteArray} (h : codeB ws = true) (i : Nat) : (sn ws i).size ≤ 12 := by
 by_cases hi : i < ws.length
 ·exact (codeB_at h hi).1.2
 ·have e : sn ws i = ByteArray.empty := by
   unfold sn
   rw [List.getD_eq_getElem?_getD, List.getElem?_eq_none (by omega)]; rfl
  rw [e]; exact Nat.zero_le _
def isPre (p s : ByteArray) : Bool := decide (p.size ≤ s.size) && ((s.extract 0 p.size).toList == p.toList)
def preR (ws : List ByteArray) (i n d : Nat) : Bool := (List.range' n d).all (fun k => decide (i = k) || !isPre (sn ws i) (sn ws k))
theorem preR_succ (ws : List ByteArray) (i n d : Nat) : preR ws i n (d + 1) = ((decide (i = n) || !isPre (sn ws i) (sn ws n)) && preR ws i (n + 1) d) := rfl
def prefR (ws : List ByteArray) (n d : Nat) : Bool := (List.range' n d).all (fun i => preR ws i 0 ws.length)
theorem prefR_succ (ws : List ByteArray) (n d : Nat) : prefR ws n (d + 1) = (preR ws n 0 ws.length && prefR ws (n + 1) d) := rfl
def krF : List ByteArray → Int → Int
 | [], a => a
 | w :: r, a => krF r (wrap64 (a + shl .i64 1 (12 - (w.size : Int))))
def complB (ws : List ByteArray) : Bool := prefR ws 0 ws.length && decide (krF ws 0 = 4096)
def PP (W : List (List UInt8)) (p : List UInt8) : Prop := ∃ c r, p ++ c :: r ∈ W
def tlL (c : UInt8) (W : List (List UInt8)) : List (List UInt8) := W.filterMap fun w => match w with | x :: r => if x = c then some r else none | [] => none
def KK (d : Nat) (W : List (List UInt8)) : Nat := (W.map fun w => 2 ^ (d - w.length)).sum
structure PF (d : Nat) (W : List (List UInt8)) : Prop where
 nd : W.Nodup
 pre : ∀ u ∈ W, ∀ v, u ++ v ∈ W → v = []
 bit : ∀ w ∈ W, ∀ c ∈ w, c = 48 ∨ c = 49
 len : ∀ w ∈ W, w.length ≤ d
theorem tlL_mem {c : UInt8} {W : List (List UInt8)} {r : List UInt8} : r ∈ tlL c W ↔ c :: r ∈ W := by
 unfold tlL
 rw [List.mem_filterMap]
 constructor
 ·rintro ⟨w, hw, h⟩
  cases w with
  | nil => simp at h
  | cons x s =>
   by_cases hx : x = c
   ·rw [hx] at h hw; simp at h; rw [← h]; exact hw
   ·simp [hx] at h
 ·intro h
  exact ⟨_, h, by simp⟩
theorem tlL_cons (c : UInt8) (w : List UInt8) (W : List (List UInt8)) : tlL c (w :: W) = (match w with | x :: r => if x = c then r :: tlL c W else tlL c W | [] => tlL c W) := by
 unfold tlL
 cases w with
 | nil => rfl
 | cons x r =>
  by_cases h : x = c
  ·simp [h]
  ·simp [h]
theorem tlL_nodup {c : UInt8} : ∀ {W : List (List UInt8)}, W.Nodup → (tlL c W).Nodup
 | [], _ => List.nodup_nil
 | w :: W, h => by
  rw [List.nodup_cons] at h
  have ih := tlL_nodup (c := c) h.2
  rw [tlL_cons]
  cases w with
  | nil => exact ih
  | cons x r =>
   by_cases hx : x = c
   ·simp only [hx, if_true]
    rw [List.nodup_cons]
    exact ⟨fun hm => h.1 (by rw [hx]; exact tlL_mem.1 hm), ih⟩
   ·simp only [hx, if_false]; exact ih
theorem PF.tl {d : Nat} {W : List (List UInt8)} (h : PF (d + 1) W) (c : UInt8) : PF d (tlL c W) where
 nd := tlL_nodup h.nd
 pre := fun u hu v huv => h.pre (c :: u) (tlL_mem.1 hu) v (tlL_mem.1 huv)
 bit := fun w hw x hx => h.bit _ (tlL_mem.1 hw) x (List.mem_cons_of_mem _ hx)
 len := fun w hw => by have := h.len _ (tlL_mem.1 hw); rw [List.length_cons] at this; omega
theorem PF.nil {d : Nat} {W : List (List UInt8)} (h : PF d W) (h0 : [] ∈ W) : W = [[]] := by
 have hall : ∀ w ∈ W, w = [] := fun w hw => h.pre [] h0 w (by rw [List.nil_append]; exact hw)
 cases W with
 | nil => exact absurd h0 (by simp)
 | cons w W =>
  have e := hall w List.mem_cons_self
  subst e
  cases W with
  | nil => rfl
  | cons v W =>
   have e := hall v (List.mem_cons_of_mem _ List.mem_cons_self)
   subst e
   exact absurd List.mem_cons_self (List.nodup_cons.1 h.nd).1
theorem KK_tl (d : Nat) : ∀ (W : List (List UInt8)), [] ∉ W → (∀ w ∈ W, ∀ c ∈ w, c = 48 ∨ c = 49) → KK (d + 1) W = KK d (tlL 48 W) + KK d (tlL 49 W) ∧ W.length = (tlL 48 W).length + (tlL 49 W).length
 | [], _, _ => ⟨rfl, rfl⟩
 | w :: W, h0, hb => by
  obtain ⟨i1, i2⟩ := KK_tl d W (fun h => h0 (List.mem_cons_of_mem _ h)) (fun w hw => hb w (List.mem_cons_of_mem _ hw))
  rw [tlL_cons, tlL_cons]
  cases w with
  | nil => exact absurd List.mem_cons_self h0
  | cons x r =>
   have e : ∀ V : List (List UInt8), KK d (r :: V) = 2 ^ (d - r.length) + KK d V := fun V => by unfold KK; rw [List.map_cons, List.sum_cons]
   have e1 : KK (d + 1) ((x :: r) :: W) = 2 ^ (d - r.length) + KK (d + 1) W := by
    unfold KK; rw [List.map_cons, List.sum_cons, List.length_cons, Nat.add_sub_add_right]
   rcases hb _ List.mem_cons_self x List.mem_cons_self with rfl | rfl
   ·have n1 : ¬ (48 : UInt8) = 49 := by decide
    simp only [n1, if_true, if_false, e, e1, List.length_cons]; omega
   ·have n1 : ¬ (49 : UInt8) = 48 := by decide
    simp only [n1, if_true, if_false, e, e1, List.length_cons]; omega
theorem KK_le : ∀ (d : Nat) (W : List (List UInt8)), PF d W → KK d W ≤ 2 ^ d
 | d, W, h => by
  by_cases h0 : [] ∈ W
  ·rw [h.nil h0]; unfold KK; simp
  ·cases d with
   | zero =>
    have e : W = [] := by
     cases W with
     | nil => rfl
     | cons w W =>
      have := h.len w List.mem_cons_self
      have e2 : w = [] := List.eq_nil_of_length_eq_zero (by omega)
      subst e2
      exact absurd List.mem_cons_self h0
    rw [e]; exact Nat.zero_le _
   | succ d =>
    have h1 := KK_le d _ (h.tl 48)
    have h2 := KK_le d _ (h.tl 49)
    rw [(KK_tl d W h0 h.bit).1, Nat.pow_succ]; omega
theorem KK_both {d : Nat} {W : List (List UInt8)} (h : PF (d + 1) W) (h0 : [] ∉ W) (hk : KK (d + 1) W = 2 ^ (d + 1)) : KK d (tlL 48 W) = 2 ^ d ∧ KK d (tlL 49 W) = 2 ^ d := by
 have h1 := KK_le d _ (h.tl 48)
 have h2 := KK_le d _ (h.tl 49)
 rw [(KK_tl d W h0 h.bit).1, Nat.pow_succ] at hk; omega
theorem KK_ne {d : Nat} {W : List (List UInt8)} (hk : KK d W = 2 ^ d) : ∃ w, w ∈ W := by
 cases W with
 | nil => have := Nat.two_pow_pos d; unfold KK at hk; simp at hk; omega
 | cons w W => exact ⟨w, List.mem_cons_self⟩
theorem PP_next : ∀ (d : Nat) (W : List (List UInt8)), PF d W → KK d W = 2 ^ d → ∀ (p : List UInt8) (c : UInt8), PP W p → (c = 48 ∨ c = 49) → p ++ [c] ∈ W ∨ PP W (p ++ [c])
 | d, W, h, hk, p, c, hp, hc => by
  have h0 : [] ∉ W := by
   intro h0
   obtain ⟨x, r, hx⟩ := hp
   rw [h.nil h0] at hx
   simp at hx
  cases d with
  | zero =>
   obtain ⟨w, hw⟩ := KK_ne hk
   have := h.len w hw
   have e2 : w = [] := List.eq_nil_of_length_eq_zero (by omega)
   rw [e2] at hw
   exact absurd hw h0
  | succ d =>
   obtain ⟨k0, k1⟩ := KK_both h h0 hk
   cases p with
   | nil =>
    have hkc : KK d (tlL c W) = 2 ^ d := by rcases hc with rfl | rfl <;> assumption
    obtain ⟨r, hr⟩ := KK_ne hkc
    have hr := tlL_mem.1 hr
    cases r with
    | nil => exact .inl hr
    | cons y r => exact .inr ⟨y, r, hr⟩
   | cons x p =>
    obtain ⟨y, r, hy⟩ := hp
    have hx := h.bit _ hy x (by simp)
    have hkx : KK d (tlL x W) = 2 ^ d := by rcases hx with rfl | rfl <;> assumption
    rcases PP_next d (tlL x W) (h.tl x) hkx p c ⟨y, r, tlL_mem.2 hy⟩ hc with h1 | ⟨z, s, h1⟩
    ·exact .inl (tlL_mem.1 h1)
    ·exact .inr ⟨z, s, tlL_mem.1 h1⟩
theorem tl_length : ∀ (L : List (List UInt8)), (∀ p ∈ L, ∀ c ∈ p, c = 48 ∨ c = 49) → L.Nodup → L.length ≤ 1 + (tlL 48 L).length + (tlL 49 L).length
 | L, hb, hn => by
  by_cases h0 : [] ∈ L
  ·have hp := List.perm_cons_erase h0
   have hn2 : ([] :: L.erase []).Nodup := hp.nodup_iff.1 hn
   rw [List.nodup_cons] at hn2
   have h1 := (KK_tl 0 (L.erase []) hn2.1 (fun w hw => hb w (List.mem_of_mem_erase hw))).2
   have e : ∀ c, (tlL c (L.erase [])).length = (tlL c L).length := fun c => by
    have h2 : (tlL c L).Perm (tlL c ([] :: L.erase [])) := hp.filterMap _
    rw [h2.length_eq, tlL_cons]
   rw [e, e] at h1
   have h3 := hp.length_eq
   rw [List.length_cons] at h3; omega
  ·have h1 := (KK_tl 0 L h0 hb).2; omega
theorem PP_few : ∀ (d : Nat) (W L : List (List UInt8)), PF d W → KK d W = 2 ^ d → L.Nodup → (∀ p ∈ L, PP W p) → L.length + 1 ≤ W.length
 | d, W, L, h, hk, hn, hL => by
  by_cases h0 : [] ∈ W
  ·have e := h.nil h0
   subst e
   cases L with
   | nil => exact Nat.le_refl _
   | cons p L =>
    obtain ⟨c, r, hx⟩ := hL p List.mem_cons_self
    simp at hx
  cases d with
  | zero =>
   obtain ⟨w, hw⟩ := KK_ne hk
   have := h.len w hw
   have e2 : w = [] := List.eq_nil_of_length_eq_zero (by omega)
   rw [e2] at hw
   exact absurd hw h0
  | succ d =>
   obtain ⟨k0, k1⟩ := KK_both h h0 hk
   have hLb : ∀ p ∈ L, ∀ c ∈ p, c = 48 ∨ c = 49 := fun p hp c hc => by
    obtain ⟨x, r, hx⟩ := hL p hp
    exact h.bit _ hx c (List.mem_append_left _ hc)
   have hs : ∀ c, ∀ p ∈ tlL c L, PP (tlL c W) p := fun c p hp => by
    obtain ⟨x, r, hx⟩ := hL _ (tlL_mem.1 hp)
    exact ⟨x, r, tlL_mem.2 hx⟩
   have h1 := PP_few d (tlL 48 W) (tlL 48 L) (h.tl 48) k0 (tlL_nodup hn) (hs 48)
   have h2 := PP_few d (tlL 49 W) (tlL 49 L) (h.tl 49) k1 (tlL_nodup hn) (hs 49)
   have h3 := tl_length L hLb hn
   have h4 := (KK_tl d W h0 h.bit).2
   omega
def ofL (l : List UInt8) : ByteArray := ⟨l.toArray⟩
theorem ofL_data (l : List UInt8) : (ofL l).data.toList = l := rfl
theorem ofL_size (l : List UInt8) : (ofL l).size = l.length := by rw [← size_data, ofL_data]
theorem ofL_of (s : ByteArray) : ofL s.data.toList = s := ByteArray.ext (Array.ext' rfl)
theorem ofL_inj {a b : List UInt8} (h : ofL a = ofL b) : a = b := by rw [← ofL_data a, h, ofL_data]
theorem ext_data (s : ByteArray) (a b : Nat) : (s.extract a b).data.toList = (s.data.toList.drop a).take (b - a) := by
 rw [ByteArray.data_extract, Array.toList_extract]
theorem ext_ofL (s : ByteArray) (a b : Nat) : s.extract a b = ofL ((s.data.toList.drop a).take (b - a)) := by
 rw [← ext_data, ofL_of]
theorem ofL_app (a b : List UInt8) : ofL a ++ ofL b = ofL (a ++ b) := by
 apply ByteArray.ext
 rw [ByteArray.data_append]
 apply Array.ext'
 rw [Array.toList_append]; rfl
theorem bit_at (x i : Nat) (hx : x < 2 ^ 62) (hi : i ≤ 63) : Go.bits .and .i64 (shr .i64 (x : Int) (i : Int)) 1 = ((x / 2 ^ i % 2 : Nat) : Int) := by
 rw [shr_nat _ _ hi]
 have e := bits_and (a := x / 2 ^ i) (b := 1) (Nat.lt_of_le_of_lt (Nat.div_le_self _ _) hx) (by decide)
 rw [Nat.and_one_is_mod] at e
 exact e
theorem shl_one {n : Nat} (h : n ≤ 61) : shl .i64 1 (n : Int) = ((2 ^ n : Nat) : Int) := by
 unfold shl
 have e : min (n : Int).toNat IntKind.i64.bits = n := by
  have : IntKind.i64.bits = 64 := rfl
  rw [this, Int.toNat_natCast]; omega
 have hlt : 2 ^ n < 2 ^ 62 := Nat.pow_lt_pow_right (by decide) (by omega)
 rw [e, Int.one_mul, IntKind.wrap_i64]
 have e2 : (2 : Int) ^ n = ((2 ^ n : Nat) : Int) := by push_cast; rfl
 rw [e2]
 generalize 2 ^ n = q at hlt ⊢
 omega
def dW (ws : List ByteArray) : List (List UInt8) := ws.map (·.data.toList)
theorem krF_sum : ∀ (ws : List ByteArray) (a : Nat), (∀ w ∈ ws, w.size ≤ 12) → a + 4096 * ws.length ≤ 1099511627776 → krF ws (a : Int) = ((a + KK 12 (dW ws) : Nat) : Int)
 | [], a, _, _ => by simp [krF, dW, KK]
 | w :: r, a, hs, hl => by
  have h1 := hs w List.mem_cons_self
  rw [List.length_cons] at hl
  have h2 : 2 ^ (12 - w.size) ≤ 2 ^ 12 := Nat.pow_le_pow_right (by decide) (by omega)
  have e1 : (12 - (w.size : Int)) = ((12 - w.size : Nat) : Int) := by omega
  have e2 : KK 12 (dW (w :: r)) = 2 ^ (12 - w.size) + KK 12 (dW r) := by
   unfold KK dW
   rw [List.map_cons, List.map_cons, List.sum_cons, size_data]
  unfold krF
  rw [e1, shl_one (by omega), e2]
  have h3 : (2 : Nat) ^ 12 = 4096 := by decide
  generalize hx : 2 ^ (12 - w.size) = x at h2 ⊢
  rw [h3] at h2
  have e3 : wrap64 ((a : Int) + (x : Int)) = ((a + x : Nat) : Int) := w64_add a x (by omega)
  rw [e3, krF_sum r (a + x) (fun v hv => hs v (List.mem_cons_of_mem _ hv)) (by omega), Nat.add_assoc]
theorem code_nodup {ws : List ByteArray} (h : codeB ws = true) : ws.Nodup := by
 unfold List.Nodup
 rw [List.pairwise_iff_getElem]
 intro i j hi hj hij e
 have h1 := (codeB_at h hj).2.2
 rw [sn_get hj] at h1
 refine h1 ?_
 rw [← e]
 exact List.mem_take_iff_getElem.2 ⟨i, by omega, rfl⟩
theorem isPre_iff (p s : ByteArray) : isPre p s = true ↔ ∃ v, s.data.toList = p.data.toList ++ v := by
 unfold isPre
 rw [Bool.and_eq_true, decide_eq_true_iff, beq_iff_eq, Lib.toList_data, Lib.toList_data, ext_data, List.drop_zero, Nat.sub_zero]
 constructor
 ·rintro ⟨h1, h2⟩
  exact ⟨s.data.toList.drop p.size, by rw [← h2, List.take_append_drop]⟩
 ·rintro ⟨v, e⟩
  have h1 : p.data.toList.length = p.size := size_data p
  have h2 : s.data.toList.length = s.size := size_data s
  rw [e, List.length_append] at h2
  refine ⟨by omega, ?_⟩
  rw [e, ← h1, List.take_left']; rfl
theorem dW_mem {ws : List ByteArray} {l : List UInt8} : l ∈ dW ws ↔ ofL l ∈ ws := by
 unfold dW
 rw [List.mem_map]
 constructor
 ·rintro ⟨x, hx, rfl⟩; rw [ofL_of]; exact hx
 ·intro h; exact ⟨ofL l, h, ofL_data l⟩
theorem dW_mem' {ws : List ByteArray} {x : ByteArray} : x.data.toList ∈ dW ws ↔ x ∈ ws := by rw [dW_mem, ofL_of]
theorem code_word {ws : List ByteArray} (h : codeB ws = true) {w : ByteArray} (hw : w ∈ ws) : (1 ≤ w.size ∧ w.size ≤ 12) ∧ ∀ c ∈ w.data.toList, c = 48 ∨ c = 49 := by
 obtain ⟨i, hi, rfl⟩ := List.mem_iff_getElem.1 hw
 have h1 := codeB_at h hi
 rw [sn_get hi] at h1
 refine ⟨h1.1, fun c hc => ?_⟩
 have h2 := List.all_eq_true.1 h1.2.1 c hc
 unfold isBitB at h2
 rw [Bool.or_eq_true, beq_iff_eq, beq_iff_eq] at h2
 exact h2
theorem code_full {ws : List ByteArray} (h : codeB ws = true) (hc : complB ws = true) : PF 12 (dW ws) ∧ KK 12 (dW ws) = 2 ^ 12 := by
 have hl := codeB_len h
 unfold complB at hc
 rw [Bool.and_eq_true] at hc
 obtain ⟨hp, hk⟩ := hc
 have hk := of_decide_eq_true hk
 have e := krF_sum ws 0 (fun w hw => (code_word h hw).1.2) (by omega)
 rw [show ((0 : Nat) : Int) = 0 from rfl, hk, Nat.zero_add] at e
 refine ⟨⟨?_, ?_, ?_, ?_⟩, by have h3 : (2 : Nat) ^ 12 = 4096 := (by decide); omega⟩
 ·exact List.Pairwise.map _ (fun a b hab => fun e => hab (ByteArray.ext (Array.ext' e))) (code_nodup h)
 ·intro u hu v huv
  obtain ⟨i, hi, e1⟩ := List.mem_iff_getElem.1 (dW_mem.1 hu)
  obtain ⟨k, hk', e2⟩ := List.mem_iff_getElem.1 (dW_mem.1 huv)
  unfold prefR at hp
  have h1 := List.all_eq_true.1 hp i (List.mem_range'_1.2 ⟨Nat.zero_le _, by omega⟩)
  unfold preR at h1
  have h2 := List.all_eq_true.1 h1 k (List.mem_range'_1.2 ⟨Nat.zero_le _, by omega⟩)
  rw [sn_get hi, sn_get hk', e1, e2] at h2
  rw [Bool.or_eq_true] at h2
  rcases h2 with h2 | h2
  ·have h2 := of_decide_eq_true h2
   subst h2
   rw [e1] at e2
   have e3 := ofL_inj e2
   have e4 : u ++ [] = u ++ v := by rw [List.append_nil]; exact e3
   exact (List.append_cancel_left e4).symm
  ·have h3 : isPre (ofL u) (ofL (u ++ v)) = true := (isPre_iff _ _).2 ⟨v, by rw [ofL_data, ofL_data]⟩
   rw [h3] at h2
   exact absurd h2 (by decide)
 ·intro w hw
  have h1 := (code_word h (dW_mem.1 hw)).2
  rw [ofL_data] at h1
  exact h1
 ·intro w hw
  have h1 := (code_word h (dW_mem.1 hw)).1.2
  rw [ofL_size] at h1
  exact h1
def rdB (ws : List ByteArray) (r b : ByteArray) : ByteArray := if r ++ b ∈ ws then (⟨#[]⟩ : ByteArray) else r ++ b
theorem rdB_size (ws : List ByteArray) (r b : ByteArray) : (rdB ws r b).size ≤ r.size + b.size := by
 unfold rdB
 by_cases h : r ++ b ∈ ws
 ·rw [if_pos h]; exact Nat.zero_le _
 ·rw [if_neg h, ByteArray.size_append]; exact Nat.le_refl _
def sb (s : ByteArray) (n : Nat) : ByteArray := s.extract n (n + 1)
theorem sb_size {s : ByteArray} {n : Nat} (h : n < s.size) : (sb s n).size = 1 := by
 unfold sb
 rw [ByteArray.size_extract]; omega
def rdN (ws : List ByteArray) (s : ByteArray) : Nat → ByteArray
 | 0 => ⟨#[]⟩
 | n + 1 => rdB ws (rdN ws s n) (sb s n)
theorem rdN_size (ws : List ByteArray) (s : ByteArray) : ∀ n, n ≤ s.size → (rdN ws s n).size ≤ n
 | 0, _ => Nat.le_refl _
 | n + 1, h => by
  have h1 := rdN_size ws s n (by omega)
  have h2 := rdB_size ws (rdN ws s n) (sb s n)
  rw [sb_size (show n < s.size by omega)] at h2
  show (rdB ws (rdN ws s n) (sb s n)).size ≤ n + 1
  omega
def endAt (ws : List ByteArray) (s : ByteArray) (b : Nat) : Bool := (rdN ws s b).toList == ([] : List UInt8)
def ownL (ws : List ByteArray) (s : ByteArray) (n d : Nat) : List Int := ((List.range' n d).filter (endAt ws s)).map (fun b : Nat => (b : Int))
theorem ownL_succ (ws : List ByteArray) (s : ByteArray) (n d : Nat) : ownL ws s n (d + 1) = if endAt ws s n = true then (n : Int) :: ownL ws s (n + 1) d else ownL ws s (n + 1) d := by
 unfold ownL
 rw [show List.range' n (d + 1) = n :: List.range' (n + 1) d from rfl, List.filter_cons]
 by_cases h : endAt ws s n = true
 ·rw [if_pos h, if_pos h]; rfl
 ·rw [if_neg h, if_neg h]
def begs (w : ByteArray) (j d : Nat) : List ByteArray := (List.range' j d).map (w.extract 0 ·)
def allP : List ByteArray → List ByteArray
 | [] => []
 | w :: r => begs w 0 w.size ++ allP r
theorem begs_succ (w : ByteArray) (j d : Nat) : begs w j (d + 1) = w.extract 0 j :: begs w (j + 1) d := rfl
theorem begs_length (w : ByteArray) (j d : Nat) : (begs w j d).length = d := by unfold begs; rw [List.length_map, List.length_range']
theorem allP_length : ∀ ws : List ByteArray, (allP ws).length = totS ws
 | [] => rfl
 | w :: r => by unfold allP totS; rw [List.length_append, begs_length, allP_length r]
theorem allP_mem : ∀ (ws : List ByteArray) (x : ByteArray), x ∈ allP ws ↔ PP (dW ws) x.data.toList
 | [], x => by
  unfold allP PP dW
  simp
 | w :: r, x => by
  have ih := allP_mem r x
  unfold allP
  rw [List.mem_append, ih]
  have e : x ∈ begs w 0 w.size ↔ ∃ c s, x.data.toList ++ c :: s = w.data.toList := by
   unfold begs
   rw [List.mem_map]
   constructor
   ·rintro ⟨j, hj, rfl⟩
    have hj := (List.mem_range'_1.1 hj).2
    rw [Nat.zero_add] at hj
    rw [ext_data, List.drop_zero, Nat.sub_zero]
    have h1 : w.data.toList.length = w.size := size_data w
    refine ⟨w.data.toList[j]'(by omega), w.data.toList.drop (j + 1), ?_⟩
    rw [← List.drop_eq_getElem_cons, List.take_append_drop]
   ·rintro ⟨c, s, e⟩
    have h1 : w.data.toList.length = w.size := size_data w
    have h2 : x.data.toList.length = x.size := size_data x
    have h3 := congrArg List.length e
    rw [List.length_append, List.length_cons] at h3
    refine ⟨x.size, List.mem_range'_1.2 ⟨Nat.zero_le _, by omega⟩, ?_⟩
    rw [ext_ofL, List.drop_zero, Nat.sub_zero, ← e, ← h2, List.take_left', ofL_of]
    rfl
  rw [e]
  unfold PP dW
  simp only [List.map_cons, List.mem_cons]
  constructor
  ·rintro (⟨c, s, h⟩ | ⟨c, s, h⟩)
   ·exact ⟨c, s, .inl h⟩
   ·exact ⟨c, s, .inr h⟩
  ·rintro ⟨c, s, h | h⟩
   ·exact .inl ⟨c, s, h⟩
   ·exact .inr ⟨c, s, h⟩
def insS (R : List ByteArray) (x : ByteArray) : List ByteArray := if x ∈ R then R else R ++ [x]
def onceS (l : List ByteArray) (R : List ByteArray) : List ByteArray := l.foldl insS R
theorem onceS_mem : ∀ (l R : List ByteArray) (x : ByteArray), x ∈ onceS l R ↔ x ∈ R ∨ x ∈ l
 | [], R, x => by simp [onceS]
 | y :: l, R, x => by
  show x ∈ onceS l (insS R y) ↔ _
  rw [onceS_mem l, List.mem_cons]
  unfold insS
  by_cases h : y ∈ R
  ·rw [if_pos h]
   constructor
   ·rintro (h1 | h1)
    ·exact .inl h1
    ·exact .inr (.inr h1)
   ·rintro (h1 | rfl | h1)
    ·exact .inl h1
    ·exact .inl h
    ·exact .inr h1
  ·rw [if_neg h, List.mem_append, List.mem_singleton]
   constructor
   ·rintro ((h1 | h1) | h1)
    ·exact .inl h1
    ·exact .inr (.inl h1)
    ·exact .inr (.inr h1)
   ·rintro (h1 | h1 | h1)
    ·exact .inl (.inl h1)
    ·exact .inl (.inr h1)
    ·exact .inr h1
theorem onceS_nodup : ∀ (l R : List ByteArray), R.Nodup → (onceS l R).Nodup
 | [], R, h => h
 | y :: l, R, h => by
  show (onceS l (insS R y)).Nodup
  refine onceS_nodup l _ ?_
  unfold insS
  by_cases hm : y ∈ R
  ·rw [if_pos hm]; exact h
  ·rw [if_neg hm]
   refine List.pairwise_append.2 ⟨h, List.pairwise_singleton _ _, fun a ha b hb => ?_⟩
   rw [List.mem_singleton] at hb
   subst hb
   exact fun e => hm (e ▸ ha)
theorem onceS_length : ∀ (l R : List ByteArray), (onceS l R).length ≤ R.length + l.length
 | [], R => Nat.le_refl _
 | y :: l, R => by
  show (onceS l (insS R y)).length ≤ _
  have h1 := onceS_length l (insS R y)
  have h2 : (insS R y).length ≤ R.length + 1 := by
   unfold insS
   by_cases hm : y ∈ R
   ·rw [if_pos hm]; omega
   ·rw [if_neg hm, List.length_append, List.length_singleton]; omega
  rw [List.length_cons]; omega
def rdrs (ws : List ByteArray) : List ByteArray := onceS (allP ws) []
theorem rdrs_mem (ws : List ByteArray) (x : ByteArray) : x ∈ rdrs ws ↔ PP (dW ws) x.data.toList := by
 unfold rdrs
 rw [onceS_mem, allP_mem]
 simp
theorem rdrs_nodup (ws : List ByteArray) : (rdrs ws).Nodup := onceS_nodup _ _ List.nodup_nil
theorem rdrs_size {ws : List ByteArray} (h : codeB ws = true) {x : ByteArray} (hx : x ∈ rdrs ws) : x.size ≤ 12 ∧ ∀ c ∈ x.data.toList, c = 48 ∨ c = 49 := by
 obtain ⟨c, s, hw⟩ := (rdrs_mem ws x).1 hx
 have h1 := code_word h (dW_mem.1 hw)
 rw [ofL_size, ofL_data, List.length_append, size_data] at h1
 exact ⟨by omega, fun c hc => h1.2 c (List.mem_append_left _ hc)⟩
theorem rdrs_few {ws : List ByteArray} (h : codeB ws = true) (hc : complB ws = true) : (rdrs ws).length + 1 ≤ ws.length := by
 obtain ⟨h1, h2⟩ := code_full h hc
 have h3 := PP_few 12 (dW ws) (dW (rdrs ws)) h1 h2 (List.Pairwise.map _ (fun a b hab => fun e => hab (ByteArray.ext (Array.ext' e))) (rdrs_nodup ws)) (fun p hp => by
  have := (rdrs_mem ws (ofL p)).1 (dW_mem.1 hp)
  rw [ofL_data] at this
  exact this)
 unfold dW at h3
 rw [List.length_map, List.length_map] at h3
 exact h3
theorem rdrs_nil {ws : List ByteArray} (h : codeB ws = true) : (⟨#[]⟩ : ByteArray) ∈ rdrs ws := by
 have hl := codeB_len h
 obtain ⟨w, r, rfl⟩ : ∃ w r, ws = w :: r := by cases ws with | nil => simp at hl | cons w r => exact ⟨w, r, rfl⟩
 rw [rdrs_mem]
 have h1 := (code_word h (w := w) List.mem_cons_self).1
 have h2 : w.data.toList.length = w.size := size_data w
 cases hd : w.data.toList with
 | nil => rw [hd] at h2; simp at h2; omega
 | cons c s => exact ⟨c, s, by rw [← hd]; exact dW_mem'.2 List.mem_cons_self⟩
theorem rdrs_next {ws : List ByteArray} (h : codeB ws = true) (hc : complB ws = true) {x b : ByteArray} (hx : x ∈ rdrs ws) (hb : b = ⟨#[48]⟩ ∨ b = ⟨#[49]⟩) : rdB ws x b ∈ rdrs ws := by
 unfold rdB
 by_cases hm : x ++ b ∈ ws
 ·rw [if_pos hm]; exact rdrs_nil h
 ·rw [if_neg hm]
  obtain ⟨h1, h2⟩ := code_full h hc
  obtain ⟨c, hcb, hc2⟩ : ∃ c : UInt8, b.data.toList = [c] ∧ (c = 48 ∨ c = 49) := by
   rcases hb with rfl | rfl
   ·exact ⟨48, rfl, .inl rfl⟩
   ·exact ⟨49, rfl, .inr rfl⟩
  have e : (x ++ b).data.toList = x.data.toList ++ [c] := by rw [ByteArray.data_append, Array.toList_append, hcb]
  rw [rdrs_mem, e]
  rcases PP_next 12 (dW ws) h1 h2 x.data.toList c ((rdrs_mem ws x).1 hx) hc2 with h3 | h3
  ·rw [← e, dW_mem'] at h3; exact absurd h3 hm
  ·exact h3
def csL (L : List (List UInt8)) : List (List UInt8) := Lib.compact (L.mergeSort fun x y => decide (x ≤ y))
theorem cmpUp (d : Array (List UInt8)) (hs : ∀ i j, i < j → j < d.size → d[i]! ≤ d[j]!) : ∀ m, m ≤ d.size →
 (∀ x, x ∈ Lib.compactUpTo d m ↔ ∃ j, j < m ∧ d[j]! = x) ∧ (Lib.compactUpTo d m).Pairwise (· < ·)
 | 0, _ => ⟨fun x => by simp [Lib.compactUpTo], by simp [Lib.compactUpTo]⟩
 | m + 1, h => by
  obtain ⟨i1, i2⟩ := cmpUp d hs m (by omega)
  rw [Lib.compactUpTo_succ]
  by_cases hk : Lib.keeps d m = true
  ·rw [if_pos hk]
   refine ⟨fun x => ?_, ?_⟩
   ·rw [List.mem_append, i1, List.mem_singleton]
    constructor
    ·rintro (⟨j, hj, e⟩ | e)
     ·exact ⟨j, by omega, e⟩
     ·exact ⟨m, by omega, e.symm⟩
    ·rintro ⟨j, hj, e⟩
     by_cases hjm : j = m
     ·subst hjm; exact .inr e.symm
     ·exact .inl ⟨j, by omega, e⟩
   ·rw [List.pairwise_append]
    refine ⟨i2, List.pairwise_singleton _ _, fun x hx y hy => ?_⟩
    rw [List.mem_singleton] at hy
    subst hy
    obtain ⟨j, hj, e⟩ := (i1 x).1 hx
    have hne : d[m]! ≠ d[m - 1]! := by
     unfold Lib.keeps at hk
     rcases of_decide_eq_true hk with h0 | h0
     ·omega
     ·exact h0
    have h1 : d[j]! ≤ d[m - 1]! := by
     by_cases hjm : j = m - 1
     ·rw [hjm]; exact List.le_refl _
     ·exact hs j (m - 1) (by omega) (by omega)
    have h2 := hs (m - 1) m (by omega) (by omega)
    have h3 : d[m - 1]! < d[m]! := by
     rcases Decidable.em (d[m - 1]! < d[m]!) with h | h
     ·exact h
     ·exact absurd (List.le_antisymm h h2) hne
    rw [← e]
    exact List.lt_of_le_of_lt h1 h3
  ·rw [if_neg hk, List.append_nil]
   refine ⟨fun x => ?_, i2⟩
   rw [i1]
   constructor
   ·rintro ⟨j, hj, e⟩; exact ⟨j, by omega, e⟩
   ·rintro ⟨j, hj, e⟩
    by_cases hjm : j = m
    ·subst hjm
     have hk2 : ¬ (j = 0 ∨ d[j]! ≠ d[j - 1]!) := fun h => hk (decide_eq_true h)
     have h0 : j ≠ 0 := fun h => hk2 (.inl h)
     have h1 : d[j]! = d[j - 1]! := Decidable.byContradiction fun h => hk2 (.inr h)
     exact ⟨j - 1, by omega, by rw [← h1]; exact e⟩
    ·exact ⟨j, by omega, e⟩
theorem csL_both (L : List (List UInt8)) : (∀ x, x ∈ csL L ↔ x ∈ L) ∧ (csL L).Pairwise (· < ·) := by
 have hs : (L.mergeSort fun x y => decide (x ≤ y)).Pairwise (fun x y => decide (x ≤ y) = true) := List.pairwise_mergeSort (le := fun x y : List UInt8 => decide (x ≤ y)) (fun a b c h1 h2 => decide_eq_true (List.le_trans (of_decide_eq_true h1) (of_decide_eq_true h2))) (fun a b => by rcases List.le_total a b with h | h <;> simp [h]) L
 have hp : (L.mergeSort fun x y => decide (x ≤ y)).Perm L := List.mergeSort_perm L _
 unfold csL Lib.compact
 generalize (L.mergeSort fun x y => decide (x ≤ y)) = S at hs hp
 have hg : ∀ i, i < S.length → S.toArray[i]! = S.getD i [] := fun i hi => by simp [hi]
 obtain ⟨h1, h2⟩ := cmpUp S.toArray (fun i j hij hj => by
  have hj' : j < S.length := by simpa using hj
  have h := (List.pairwise_iff_getElem.1 hs) i j (by omega) hj' hij
  have h := of_decide_eq_true h
  simpa [hj', show i < S.length by omega] using h) S.length (by simp)
 refine ⟨fun x => ?_, h2⟩
 rw [h1, ← hp.mem_iff, List.mem_iff_getElem]
 constructor
 ·rintro ⟨j, hj, e⟩; exact ⟨j, hj, by simpa [hj] using e⟩
 ·rintro ⟨j, hj, e⟩; exact ⟨j, hj, by simpa [hj] using e⟩
theorem rise_eq : ∀ (a b : List (List UInt8)), a.Pairwise (· < ·) → b.Pairwise (· < ·) → (∀ x, x ∈ a ↔ x ∈ b) → a = b
 | [], [], _, _, _ => rfl
 | [], y :: b, _, _, h => absurd ((h y).2 List.mem_cons_self) (by simp)
 | x :: a, [], _, _, h => absurd ((h x).1 List.mem_cons_self) (by simp)
 | x :: a, y :: b, ha, hb, h => by
  rw [List.pairwise_cons] at ha hb
  have e : x = y := by
   rcases List.mem_cons.1 ((h x).1 List.mem_cons_self) with h1 | h1
   ·exact h1
   rcases List.mem_cons.1 ((h y).2 List.mem_cons_self) with h2 | h2
   ·exact h2.symm
   exact absurd (List.lt_trans (hb.1 x h1) (ha.1 y h2)) (List.lt_irrefl _)
  subst e
  rw [rise_eq a b ha.2 hb.2 (fun z => ?_)]
  have hz := h z
  rw [List.mem_cons, List.mem_cons] at hz
  constructor
  ·intro hm
   rcases hz.1 (.inr hm) with h1 | h1
   ·subst h1; exact absurd (ha.1 _ hm) (List.lt_irrefl _)
   ·exact h1
  ·intro hm
   rcases hz.2 (.inr hm) with h1 | h1
   ·subst h1; exact absurd (hb.1 _ hm) (List.lt_irrefl _)
   ·exact h1
def cs (xs : List ByteArray) : List ByteArray := compactT (sortT xs)
theorem cs_eq (xs : List ByteArray) : cs xs = (csL (xs.map (·.data.toList))).map ofL := by
 unfold cs compactT sortT csL
 rw [List.map_map]
 have e : ((fun x : ByteArray => x.data.toList) ∘ fun l : List UInt8 => (⟨l.toArray⟩ : ByteArray)) = id := by funext l; rfl
 rw [e, List.map_id]
 rfl
theorem cs_mem (xs : List ByteArray) (x : ByteArray) : x ∈ cs xs ↔ x ∈ xs := by
 rw [cs_eq, List.mem_map]
 constructor
 ·rintro ⟨l, hl, rfl⟩
  rw [(csL_both _).1, List.mem_map] at hl
  obtain ⟨y, hy, e⟩ := hl
  rw [← e, ofL_of]; exact hy
 ·intro h
  exact ⟨x.data.toList, ((csL_both _).1 _).2 (List.mem_map.2 ⟨x, h, rfl⟩), ofL_of x⟩
theorem cs_congr {xs ys : List ByteArray} (h : ∀ x, x ∈ xs ↔ x ∈ ys) : cs xs = cs ys := by
 rw [cs_eq, cs_eq]
 congr 1
 refine rise_eq _ _ (csL_both _).2 (csL_both _).2 (fun l => ?_)
 rw [(csL_both _).1, (csL_both _).1, List.mem_map, List.mem_map]
 constructor
 ·rintro ⟨x, hx, e⟩; exact ⟨x, (h x).1 hx, e⟩
 ·rintro ⟨x, hx, e⟩; exact ⟨x, (h x).2 hx, e⟩
theorem sort_eq (xs : List ByteArray) (h : xs.length ≤ 1099511627776) : slices_Sort_string_string.f xs = some (sortT xs) := by
 unfold slices_Sort_string_string.f
 rw [if_pos (by omega)]
theorem sortT_length (xs : List ByteArray) : (sortT xs).length = xs.length := by
 unfold sortT
 rw [List.length_map, List.length_mergeSort, List.length_map]
theorem compact_eq (xs : List ByteArray) (h : xs.length ≤ 1099511627776) : slices_Compact_string_string.f xs = some (compactT xs) := by
 unfold slices_Compact_string_string.f
 rw [if_pos (by omega)]
theorem join_inj : ∀ (a b : List (List UInt8)), a ≠ [] → b ≠ [] → (∀ x ∈ a, ∀ c ∈ x, c = 48 ∨ c = 49) → (∀ x ∈ b, ∀ c ∈ x, c = 48 ∨ c = 49) → Lib.join a [44] = Lib.join b [44] → a = b := by
 have key : ∀ (x y s t : List UInt8), (∀ c ∈ x, c = 48 ∨ c = 49) → (∀ c ∈ y, c = 48 ∨ c = 49) → (s = [] ∨ ∃ s', s = 44 :: s') → (t = [] ∨ ∃ t', t = 44 :: t') → x ++ s = y ++ t → x = y ∧ s = t := by
  intro x
  induction x with
  | nil =>
   intro y s t hx hy hs ht e
   cases y with
   | nil => exact ⟨rfl, e⟩
   | cons c y =>
    rw [List.nil_append, List.cons_append] at e
    rcases hs with rfl | ⟨s', rfl⟩
    ·exact absurd e (by simp)
    ·injection e with e1 _
     rcases hy c List.mem_cons_self with h | h <;> rw [h] at e1 <;> exact absurd e1 (by decide)
  | cons c x ih =>
   intro y s t hx hy hs ht e
   cases y with
   | nil =>
    rw [List.nil_append, List.cons_append] at e
    rcases ht with rfl | ⟨t', rfl⟩
    ·exact absurd e (by simp)
    ·injection e with e1 _
     rcases hx c List.mem_cons_self with h | h <;> rw [h] at e1 <;> exact absurd e1 (by decide)
   | cons d y =>
    rw [List.cons_append, List.cons_append] at e
    injection e with e1 e2
    obtain ⟨h1, h2⟩ := ih y s t (fun z hz => hx z (List.mem_cons_of_mem _ hz)) (fun z hz => hy z (List.mem_cons_of_mem _ hz)) hs ht e2
    exact ⟨by rw [e1, h1], h2⟩
 have tail : ∀ r : List (List UInt8), Lib.joinTail [44] r = [] ∨ ∃ s', Lib.joinTail [44] r = 44 :: s' := by
  intro r
  cases r with
  | nil => exact .inl rfl
  | cons y r => exact .inr ⟨y ++ Lib.joinTail [44] r, by unfold Lib.joinTail; simp⟩
 have tails : ∀ (a b : List (List UInt8)), (∀ x ∈ a, ∀ c ∈ x, c = 48 ∨ c = 49) → (∀ x ∈ b, ∀ c ∈ x, c = 48 ∨ c = 49) → Lib.joinTail [44] a = Lib.joinTail [44] b → a = b := by
  intro a
  induction a with
  | nil =>
   intro b _ _ e
   cases b with
   | nil => rfl
   | cons y b => exact absurd e (by unfold Lib.joinTail; simp)
  | cons x a ih =>
   intro b ha hb e
   cases b with
   | nil => exact absurd e (by unfold Lib.joinTail; simp)
   | cons y b =>
    have e2 : ∀ (z : List UInt8) (r : List (List UInt8)), Lib.joinTail [44] (z :: r) = 44 :: (z ++ Lib.joinTail [44] r) := fun z r => by unfold Lib.joinTail; simp
    rw [e2, e2] at e
    injection e with _ e
    obtain ⟨h1, h2⟩ := key x y _ _ (ha x List.mem_cons_self) (hb y List.mem_cons_self) (tail a) (tail b) e
    rw [h1, ih b (fun z hz => ha z (List.mem_cons_of_mem _ hz)) (fun z hz => hb z (List.mem_cons_of_mem _ hz)) h2]
 intro a b hna hnb ha hb e
 cases a with
 | nil => exact absurd rfl hna
 | cons x a =>
  cases b with
  | nil => exact absurd rfl hnb
  | cons y b =>
   rw [Lib.join_cons, Lib.join_cons] at e
   obtain ⟨h1, h2⟩ := key x y _ _ (ha x List.mem_cons_self) (hb y List.mem_cons_self) (tail a) (tail b) e
   rw [h1, tails a b (fun z hz => ha z (List.mem_cons_of_mem _ hz)) (fun z hz => hb z (List.mem_cons_of_mem _ hz)) h2]
def idxS : List ByteArray → Nat → ByteArray → Int
 | [], _, _ => -1
 | y :: r, n, x => if y = x then (n : Int) else idxS r (n + 1) x
theorem idxS_pos : ∀ (r : List ByteArray) (n : Nat) (x : ByteArray), 0 ≤ idxS r n x ↔ x ∈ r
 | [], n, x => by simp [idxS]
 | y :: r, n, x => by
  unfold idxS
  by_cases h : y = x
  ·rw [if_pos h]
   exact ⟨fun _ => by rw [h]; exact List.mem_cons_self, fun _ => by omega⟩
  ·rw [if_neg h, idxS_pos r (n + 1) x, List.mem_cons]
   exact ⟨fun h2 => .inr h2, fun h2 => by rcases h2 with h2 | h2; exact absurd h2.symm h; exact h2⟩
theorem l03Index_l0 (xs : List ByteArray) (x : ByteArray) (hn : xs.length ≤ 1099511627776) : ∀ d n, n + d = xs.length → Ev (fun k => spec_l03Index.l0 k xs x (n : Int)) (idxS (xs.drop n) n x) := by
 intro d
 induction d with
 | zero =>
  intro n h
  have c1 : ¬ (n : Int) < (xs.length : Int) := by omega
  rw [List.drop_eq_nil_of_le (by omega)]
  apply Ev.succ
  simp only [spec_l03Index.l0]
  exact Ev.cond (fun h' => absurd h' c1) (fun _ => Ev.now _)
 | succ d ih =>
  intro n h
  have hl : n < xs.length := by omega
  have c1 : (n : Int) < (xs.length : Int) := by omega
  have c2 : (0 : Int) ≤ (n : Int) := by omega
  have h3 := ih (n + 1) (by omega)
  rw [drop_sn hl]
  unfold idxS
  apply Ev.succ
  simp only [spec_l03Index.l0, sr_nat, w64_succ (show n < 9223372036854775807 by omega)]
  refine Ev.cond (fun _ => ?_) (fun h' => absurd c1 h')
  refine Ev.cond (fun _ => ?_) (fun h' => absurd c2 h')
  by_cases hc : sn xs n = x
  ·rw [if_pos hc]
   exact Ev.cond (fun _ => Ev.now _) (fun h' => absurd (by rw [hc]) h')
  ·rw [if_neg hc]
   exact Ev.cond (fun h' => absurd (bytes_ext h') hc) (fun _ => h3)
theorem l03Index_ev (xs : List ByteArray) (x : ByteArray) (hn : xs.length ≤ 1099511627776) : Ev (fun k => spec_l03Index.f k xs x) (idxS xs 0 x) := l03Index_l0 xs x hn xs.length 0 (by omega)
theorem sIndex_l0 (xs : List ByteArray) (x : ByteArray) (hn : xs.length ≤ 1099511627776) : ∀ d n, n + d = xs.length → Ev (fun k => slices_Index_string_string.l0 k xs x (xs.length : Int) (n : Int)) (idxS (xs.drop n) n x) := by
 intro d
 induction d with
 | zero =>
  intro n h
  have c1 : ¬ (n : Int) < (xs.length : Int) := by omega
  rw [List.drop_eq_nil_of_le (by omega)]
  apply Ev.succ
  simp only [slices_Index_string_string.l0]
  exact Ev.cond (fun h' => absurd h' c1) (fun _ => Ev.now _)
 | succ d ih =>
  intro n h
  have hl : n < xs.length := by omega
  have c1 : (n : Int) < (xs.length : Int) := by omega
  have c2 : (0 : Int) ≤ (n : Int) := by omega
  have h3 := ih (n + 1) (by omega)
  rw [drop_sn hl]
  unfold idxS
  apply Ev.succ
  simp only [slices_Index_string_string.l0, sr_nat, w64_succ (show n < 9223372036854775807 by omega)]
  refine Ev.cond (fun _ => ?_) (fun h' => absurd c1 h')
  refine Ev.cond (fun _ => ?_) (fun h' => absurd c2 h')
  refine Ev.cond (fun _ => ?_) (fun h' => absurd c1 h')
  by_cases hc : sn xs n = x
  ·rw [if_pos hc]
   exact Ev.cond (fun _ => Ev.now _) (fun h' => absurd (by rw [hc]) h')
  ·rw [if_neg hc]
   exact Ev.cond (fun h' => absurd (bytes_ext h').symm hc) (fun _ => h3)
theorem sIndex_ev (xs : List ByteArray) (x : ByteArray) (hn : xs.length ≤ 1099511627776) : Ev (fun k => slices_Index_string_string.f k xs x) (idxS xs 0 x) := sIndex_l0 xs x hn xs.length 0 (by omega)
theorem sContains_ev (xs : List ByteArray) (x : ByteArray) (hn : xs.length ≤ 1099511627776) : Ev (fun k => slices_Contains_string_string.f k xs x) (decide (x ∈ xs)) := by
 unfold slices_Contains_string_string.f
 refine Ev.bind (sIndex_ev xs x hn) (Ev.const ?_)
 congr 1
 exact decide_eq_decide.2 (idxS_pos xs 0 x)
def bsT (b : Nat) : ByteArray := if b = 1 then ⟨#[49]⟩ else ⟨#[48]⟩
theorem bsT_or (b : Nat) : bsT b = ⟨#[48]⟩ ∨ bsT b = ⟨#[49]⟩ := by
 unfold bsT
 by_cases h : b = 1
 ·rw [if_pos h]; exact .inr rfl
 ·rw [if_neg h]; exact .inl rfl
theorem bsT_size (b : Nat) : (bsT b).size = 1 := by rcases bsT_or b with h | h <;> rw [h] <;> rfl
theorem idxS_at : ∀ (r : List ByteArray) (n : Nat) (x : ByteArray), x ∈ r → ∃ k, k < r.length ∧ idxS r n x = ((n + k : Nat) : Int) ∧ sn r k = x
 | [], _, _, h => absurd h (by simp)
 | y :: r, n, x, h => by
  unfold idxS
  by_cases e : y = x
  ·rw [if_pos e]
   exact ⟨0, by simp, rfl, by unfold sn; simpa using e⟩
  ·rw [if_neg e]
   obtain ⟨k, h1, h2, h3⟩ := idxS_at r (n + 1) x (by
    rcases List.mem_cons.1 h with h | h
    ·exact absurd h.symm e
    ·exact h)
   refine ⟨k + 1, by rw [List.length_cons]; omega, by rw [h2]; congr 1; omega, ?_⟩
   unfold sn at h3 ⊢
   rw [List.getD_cons_succ]; exact h3
theorem sn_inj {R : List ByteArray} (hn : R.Nodup) {i j : Nat} (hi : i < R.length) (hj : j < R.length) (e : sn R i = sn R j) : i = j := by
 rw [sn_get hi, sn_get hj] at e
 unfold List.Nodup at hn
 rw [List.pairwise_iff_getElem] at hn
 rcases Nat.lt_trichotomy i j with h | h | h
 ·exact absurd e (hn i j hi hj h)
 ·exact h
 ·exact absurd e.symm (hn j i hj hi h)
def pl (R : List ByteArray) (x : ByteArray) : Nat := (idxS R 0 x).toNat
theorem pl_at {R : List ByteArray} {x : ByteArray} (h : x ∈ R) : pl R x < R.length ∧ idxS R 0 x = (pl R x : Int) ∧ sn R (pl R x) = x := by
 obtain ⟨k, h1, h2, h3⟩ := idxS_at R 0 x h
 rw [Nat.zero_add] at h2
 have e : pl R x = k := by unfold pl; rw [h2, Int.toNat_natCast]
 rw [e]
 exact ⟨h1, h2, h3⟩
def memb (R : List ByteArray) (m : Nat) : List ByteArray := ((List.range R.length).filter (m.testBit ·)).map (sn R)
theorem memb_mem (R : List ByteArray) (m : Nat) (x : ByteArray) : x ∈ memb R m ↔ ∃ i, i < R.length ∧ m.testBit i = true ∧ sn R i = x := by
 unfold memb
 rw [List.mem_map]
 constructor
 ·rintro ⟨i, hi, e⟩
  rw [List.mem_filter, List.mem_range] at hi
  exact ⟨i, hi.1, hi.2, e⟩
 ·rintro ⟨i, h1, h2, e⟩
  exact ⟨i, List.mem_filter.2 ⟨List.mem_range.2 h1, h2⟩, e⟩
def phi (R : List ByteArray) (m : Nat) : List ByteArray := cs (memb R m)
theorem phi_mem (R : List ByteArray) (m : Nat) (x : ByteArray) : x ∈ phi R m ↔ ∃ i, i < R.length ∧ m.testBit i = true ∧ sn R i = x := by
 unfold phi; rw [cs_mem, memb_mem]
theorem phi_at {R : List ByteArray} (hn : R.Nodup) (m : Nat) {i : Nat} (hi : i < R.length) : sn R i ∈ phi R m ↔ m.testBit i = true := by
 rw [phi_mem]
 constructor
 ·rintro ⟨j, h1, h2, e⟩
  rw [← sn_inj hn h1 hi e]; exact h2
 ·intro h; exact ⟨i, hi, h, rfl⟩
theorem phi_inj {R : List ByteArray} (hn : R.Nodup) {m m' : Nat} (h : m < 2 ^ R.length) (h' : m' < 2 ^ R.length) (e : phi R m = phi R m') : m = m' := by
 apply Nat.eq_of_testBit_eq
 intro i
 by_cases hi : i < R.length
 ·have h1 := phi_at hn m hi
  have h2 := phi_at hn m' hi
  rw [e] at h1
  rw [Bool.eq_iff_iff, ← h1, ← h2]
 ·have hp : 2 ^ R.length ≤ 2 ^ i := Nat.pow_le_pow_right (by decide) (by omega)
  rw [Nat.testBit_lt_two_pow (by omega), Nat.testBit_lt_two_pow (by omega)]
theorem phi_ne {R : List ByteArray} {m : Nat} (h0 : 0 < m) (h : m < 2 ^ R.length) : phi R m ≠ [] := by
 intro e
 have : m = 0 := by
  apply Nat.eq_of_testBit_eq
  intro i
  rw [Nat.zero_testBit]
  by_cases hi : i < R.length
  ·rcases hb : m.testBit i with _ | _
   ·rfl
   ·have h2 := (phi_mem R m (sn R i)).2 ⟨i, hi, hb, rfl⟩
    rw [e] at h2
    exact absurd h2 (by simp)
  ·have hp : 2 ^ R.length ≤ 2 ^ i := Nat.pow_le_pow_right (by decide) (by omega)
   rw [Nat.testBit_lt_two_pow (by omega)]
 omega
theorem compactL_le (L : List (List UInt8)) : (Lib.compact L).length ≤ L.length := Lib.compact_length_le L
theorem cs_length (xs : List ByteArray) : (cs xs).length ≤ xs.length := by
 rw [cs_eq, List.length_map]
 unfold csL
 refine Nat.le_trans (compactL_le _) ?_
 rw [List.length_mergeSort, List.length_map]; exact Nat.le_refl _
theorem phi_length (R : List ByteArray) (m : Nat) : (phi R m).length ≤ R.length := by
 unfold phi
 refine Nat.le_trans (cs_length _) ?_
 unfold memb
 rw [List.length_map]
 exact Nat.le_trans (List.length_filter_le _ _) (by rw [List.length_range]; exact Nat.le_refl _)
theorem phi_sub {R : List ByteArray} {m : Nat} {x : ByteArray} (h : x ∈ phi R m) : x ∈ R := by
 obtain ⟨i, h1, _, rfl⟩ := (phi_mem R m x).1 h
 exact sn_mem h1
def stpG (nx : Nat → Nat) (m : Nat) : Nat → Nat → Nat
 | 0, a => a
 | k + 1, a => if m.testBit k = true then stpG nx m k a ||| 2 ^ nx k else stpG nx m k a
def stp (ws R : List ByteArray) (b m : Nat) : Nat := stpG (fun i => pl R (rdB ws (sn R i) (bsT b))) m R.length 0
theorem stpG_bit (nx : Nat → Nat) (m : Nat) (j : Nat) : ∀ k, (stpG nx m k 0).testBit j = true ↔ ∃ i, i < k ∧ m.testBit i = true ∧ nx i = j
 | 0 => by simp [stpG]
 | k + 1 => by
  have ih := stpG_bit nx m j k
  unfold stpG
  by_cases h : m.testBit k = true
  ·rw [if_pos h, Nat.testBit_or, Bool.or_eq_true, ih, Nat.testBit_two_pow, decide_eq_true_iff]
   constructor
   ·rintro (⟨i, h1, h2, h3⟩ | e)
    ·exact ⟨i, by omega, h2, h3⟩
    ·exact ⟨k, by omega, h, e⟩
   ·rintro ⟨i, h1, h2, h3⟩
    by_cases hk : i = k
    ·subst hk; exact .inr h3
    ·exact .inl ⟨i, by omega, h2, h3⟩
  ·rw [if_neg h, ih]
   constructor
   ·rintro ⟨i, h1, h2, h3⟩; exact ⟨i, by omega, h2, h3⟩
   ·rintro ⟨i, h1, h2, h3⟩
    by_cases hk : i = k
    ·subst hk; exact absurd h2 h
    ·exact ⟨i, by omega, h2, h3⟩
theorem stpG_lt (nx : Nat → Nat) (m n : Nat) (hx : ∀ i, i < n → nx i < n) : ∀ k, k ≤ n → stpG nx m k 0 < 2 ^ n
 | 0, _ => Nat.two_pow_pos n
 | k + 1, h => by
  have ih := stpG_lt nx m n hx k (by omega)
  unfold stpG
  by_cases hb : m.testBit k = true
  ·rw [if_pos hb]
   exact Nat.or_lt_two_pow ih (Nat.pow_lt_pow_right (by decide) (hx k (by omega)))
  ·rw [if_neg hb]; exact ih
structure Rd (ws R : List ByteArray) : Prop where
 nd : R.Nodup
 few : R.length ≤ 15
 nil : (⟨#[]⟩ : ByteArray) ∈ R
 next : ∀ x ∈ R, ∀ b, rdB ws x (bsT b) ∈ R
 bits : ∀ x ∈ R, x.size ≤ 12 ∧ ∀ c ∈ x.data.toList, c = 48 ∨ c = 49
theorem rd_of {ws : List ByteArray} (h : codeB ws = true) (hc : complB ws = true) : Rd ws (rdrs ws) where
 nd := rdrs_nodup ws
 few := by have h1 := rdrs_few h hc; have h2 := codeB_len h; omega
 nil := rdrs_nil h
 next := fun x hx b => rdrs_next h hc hx (bsT_or b)
 bits := fun x hx => rdrs_size h hx
theorem Rd.nx_lt {ws R : List ByteArray} (h : Rd ws R) (b : Nat) (i : Nat) (hi : i < R.length) : pl R (rdB ws (sn R i) (bsT b)) < R.length := (pl_at (h.next _ (sn_mem hi) b)).1
theorem Rd.stp_lt {ws R : List ByteArray} (h : Rd ws R) (b m : Nat) : stp ws R b m < 2 ^ R.length := stpG_lt _ m R.length (h.nx_lt b) R.length (Nat.le_refl _)
theorem Rd.stp_mem {ws R : List ByteArray} (h : Rd ws R) (b m : Nat) (x : ByteArray) : x ∈ phi R (stp ws R b m) ↔ ∃ r, r ∈ phi R m ∧ rdB ws r (bsT b) = x := by
 rw [phi_mem]
 unfold stp
 constructor
 ·rintro ⟨j, h1, h2, rfl⟩
  obtain ⟨i, h3, h4, e⟩ := (stpG_bit _ m j R.length).1 h2
  exact ⟨sn R i, (phi_mem R m _).2 ⟨i, h3, h4, rfl⟩, by rw [← e, (pl_at (h.next _ (sn_mem h3) b)).2.2]⟩
 ·rintro ⟨r, hr, rfl⟩
  obtain ⟨i, h3, h4, rfl⟩ := (phi_mem R m r).1 hr
  have h5 := pl_at (h.next _ (sn_mem h3) b)
  exact ⟨_, h5.1, (stpG_bit _ m _ R.length).2 ⟨i, h3, h4, rfl⟩, h5.2.2⟩
theorem Rd.stp_cs {ws R : List ByteArray} (h : Rd ws R) (b m : Nat) : cs ((phi R m).map fun r => rdB ws r (bsT b)) = phi R (stp ws R b m) := by
 have e : phi R (stp ws R b m) = cs (phi R (stp ws R b m)) := by
  unfold phi
  exact cs_congr fun x => (cs_mem _ x).symm
 rw [e]
 refine cs_congr fun x => ?_
 rw [h.stp_mem, List.mem_map]
theorem Rd.stp_pos {ws R : List ByteArray} (h : Rd ws R) (b : Nat) {m : Nat} (h0 : 0 < m) (hm : m < 2 ^ R.length) : 0 < stp ws R b m := by
 rcases Nat.eq_zero_or_pos (stp ws R b m) with h1 | h1
 ·obtain ⟨x, l, e⟩ : ∃ x l, phi R m = x :: l := by
   have := phi_ne h0 hm
   cases hp : phi R m with
   | nil => exact absurd hp this
   | cons x l => exact ⟨x, l, rfl⟩
  have h2 := (h.stp_mem b m (rdB ws x (bsT b))).2 ⟨x, by rw [e]; exact List.mem_cons_self, rfl⟩
  rw [h1] at h2
  obtain ⟨i, _, h3, _⟩ := (phi_mem R 0 _).1 h2
  rw [Nat.zero_testBit] at h3
  exact absurd h3 (by decide)
 ·exact h1
def goalN (R : List ByteArray) : Nat := 2 ^ pl R (⟨#[]⟩ : ByteArray)
theorem Rd.goal_iff {ws R : List ByteArray} (h : Rd ws R) {m : Nat} (hm : m < 2 ^ R.length) : m = goalN R ↔ phi R m = [(⟨#[]⟩ : ByteArray)] := by
 obtain ⟨h1, h2, h3⟩ := pl_at h.nil
 have hg : goalN R < 2 ^ R.length := Nat.pow_lt_pow_right (by decide) h1
 have e : phi R (goalN R) = [(⟨#[]⟩ : ByteArray)] := by
  have e1 : phi R (goalN R) = cs [(⟨#[]⟩ : ByteArray)] := by
   unfold phi
   refine cs_congr fun x => ?_
   rw [memb_mem, List.mem_singleton]
   unfold goalN
   constructor
   ·rintro ⟨i, hi, hb, rfl⟩
    rw [Nat.testBit_two_pow, decide_eq_true_iff] at hb
    rw [← hb]; exact h3
   ·rintro rfl
    exact ⟨_, h1, by rw [Nat.testBit_two_pow, decide_eq_true_iff], h3⟩
  have e2 : csL [[]] = [[]] := rise_eq _ _ (csL_both _).2 (List.pairwise_singleton _ _) (csL_both _).1
  rw [e1, cs_eq]
  show (csL [[]]).map ofL = _
  rw [e2]; rfl
 constructor
 ·rintro rfl; exact e
 ·intro e2; exact phi_inj h.nd hm hg (by rw [e2, e])
theorem all_phi {ws : List ByteArray} : cs (allP ws) = phi (rdrs ws) (2 ^ (rdrs ws).length - 1) := by
 unfold phi
 refine cs_congr fun x => ?_
 rw [memb_mem, allP_mem, ← rdrs_mem]
 constructor
 ·intro hx
  obtain ⟨h1, _, h3⟩ := pl_at hx
  exact ⟨_, h1, by rw [Nat.testBit_two_pow_sub_one, decide_eq_true_iff]; exact h1, h3⟩
 ·rintro ⟨i, hi, _, rfl⟩; exact sn_mem hi
def keyN (R : List ByteArray) (m : Nat) : ByteArray := joinT (phi R m) (⟨#[44]⟩ : ByteArray)
theorem lens_le : ∀ (l : List ByteArray), (∀ x ∈ l, x.size ≤ 12) → Lib.lens (l.map (·.data.toList)) ≤ 12 * l.length
 | [], _ => Nat.le_refl _
 | x :: l, h => by
  have ih := lens_le l (fun y hy => h y (List.mem_cons_of_mem _ hy))
  have h1 := h x List.mem_cons_self
  unfold Lib.lens at ih ⊢
  simp only [List.map_cons, List.sum_cons, List.length_cons]
  rw [size_data]; omega
theorem joinT_size (l : List ByteArray) (h : ∀ x ∈ l, x.size ≤ 12) : (joinT l (⟨#[44]⟩ : ByteArray)).size ≤ 13 * l.length := by
 have e : (joinT l (⟨#[44]⟩ : ByteArray)).size = (Lib.join (l.map (·.data.toList)) [44]).length := by
  unfold joinT
  exact ofL_size _
 rw [e]
 cases l with
 | nil => exact Nat.le_refl _
 | cons x l =>
  rw [List.map_cons, Lib.join_length, ← List.map_cons (f := fun x : ByteArray => x.data.toList)]
  have h1 := lens_le (x :: l) h
  simp only [List.length_cons, List.length_map, List.length_nil] at h1 ⊢
  omega
theorem Rd.key_size {ws R : List ByteArray} (h : Rd ws R) (m : Nat) : (keyN R m).size ≤ 195 := by
 have h1 := joinT_size (phi R m) (fun x hx => (h.bits x (phi_sub hx)).1)
 have h2 := phi_length R m
 have h3 := h.few
 unfold keyN; omega
theorem Rd.key_inj {ws R : List ByteArray} (h : Rd ws R) {m m' : Nat} (h0 : 0 < m) (h0' : 0 < m') (hm : m < 2 ^ R.length) (hm' : m' < 2 ^ R.length) (e : (keyN R m).data.toList = (keyN R m').data.toList) : m = m' := by
 refine phi_inj h.nd hm hm' ?_
 have hb : ∀ m, ∀ x ∈ (phi R m).map (·.data.toList), ∀ c ∈ x, c = 48 ∨ c = 49 := fun m x hx => by
  obtain ⟨y, hy, rfl⟩ := List.mem_map.1 hx
  exact (h.bits y (phi_sub hy)).2
 have e : Lib.join ((phi R m).map fun x : ByteArray => x.data.toList) [44] = Lib.join ((phi R m').map fun x : ByteArray => x.data.toList) [44] := e
 have e2 := join_inj ((phi R m).map fun x : ByteArray => x.data.toList) ((phi R m').map fun x : ByteArray => x.data.toList) (fun e => phi_ne h0 hm (List.map_eq_nil_iff.1 e)) (fun e => phi_ne h0' hm' (List.map_eq_nil_iff.1 e)) (hb m) (hb m') e
 have e3 := congrArg (List.map ofL) e2
 rw [List.map_map, List.map_map] at e3
 have e4 : (ofL ∘ fun x : ByteArray => x.data.toList) = id := by funext x; exact ofL_of x
 rw [e4, List.map_id, List.map_id] at e3
 exact e3
theorem Rd.has_iff {ws R : List ByteArray} (h : Rd ws R) {q : List Nat} (hq : ∀ m ∈ q, 0 < m ∧ m < 2 ^ R.length) {m : Nat} (h0 : 0 < m) (hm : m < 2 ^ R.length) : hasT (q.map (keyN R)) (keyN R m) = decide (m ∈ q) := by
 rw [Bool.eq_iff_iff, decide_eq_true_iff]
 unfold hasT
 rw [List.any_eq_true]
 constructor
 ·rintro ⟨y, hy, e⟩
  obtain ⟨m', hm', rfl⟩ := List.mem_map.1 hy
  rw [beq_iff_eq] at e
  rw [← h.key_inj (hq m' hm').1 h0 (hq m' hm').2 hm e]; exact hm'
 ·intro hm2
  exact ⟨_, List.mem_map.2 ⟨m, hm2, rfl⟩, by simp⟩
theorem nodup_lt : ∀ (N : Nat) (l : List Nat), l.Nodup → (∀ x ∈ l, x < N) → l.length ≤ N
 | 0, l, _, h => by
  cases l with
  | nil => exact Nat.le_refl _
  | cons x l => exact absurd (h x List.mem_cons_self) (by omega)
 | N + 1, l, hn, h => by
  by_cases hm : N ∈ l
  ·have hp := List.perm_cons_erase hm
   have hn2 := hp.nodup_iff.1 hn
   rw [List.nodup_cons] at hn2
   have ih := nodup_lt N (l.erase N) hn2.2 (fun x hx => by
    have h1 := h x (List.mem_of_mem_erase hx)
    have h2 : x ≠ N := fun e => hn2.1 (e ▸ hx)
    omega)
   have := hp.length_eq
   rw [List.length_cons] at this; omega
  ·have ih := nodup_lt N l hn (fun x hx => by
    have h1 := h x hx
    have h2 : x ≠ N := fun e => hm (e ▸ hx)
    omega)
   omega
theorem l05Readers_l1 (ws : List ByteArray) (hn : ws.length ≤ 1099511627776) (i : Nat) (hi : i < ws.length) (hw : (sn ws i).size ≤ 1099511627776) {r : List ByteArray} : ∀ d j (R : List ByteArray), j + d = (sn ws i).size → R.length + d ≤ 1099511627776 →
 Ev (fun k => spec_l05Readers.l0 k ws (onceS (begs (sn ws i) j d) R) ((i + 1 : Nat) : Int)) r → Ev (fun k => spec_l05Readers.l1 k ws R (i : Int) (j : Int)) r := by
 have w1 := w64_succ (show i < 9223372036854775807 by omega)
 have c5 : (i : Int) < (ws.length : Int) := by omega
 have c6 : (0 : Int) ≤ (i : Int) := by omega
 intro d
 induction d with
 | zero =>
  intro j R h hR hr
  have c1 : ¬ (j : Int) < ((sn ws i).size : Int) := by omega
  apply Ev.succ
  simp only [spec_l05Readers.l1, sr_nat, w1]
  refine Ev.cond (fun _ => ?_) (fun h' => absurd c6 h')
  refine Ev.cond (fun _ => ?_) (fun h' => absurd c5 h')
  exact Ev.cond (fun h' => absurd h' c1) (fun _ => hr)
 | succ d ih =>
  intro j R h hR hr
  have c1 : (j : Int) < ((sn ws i).size : Int) := by omega
  have c2 : (0 : Int) ≤ (j : Int) := by omega
  have c3 : (j : Int) ≤ ((sn ws i).size : Int) := by omega
  have c4 : R.length < 8796093022208 := by omega
  have hx := l03Index_ev R ((sn ws i).extract 0 j) (by omega)
  have h3 := ih (j + 1) (insS R ((sn ws i).extract 0 j)) (by omega) (by
   unfold insS
   by_cases hm : (sn ws i).extract 0 j ∈ R
   ·rw [if_pos hm]; omega
   ·rw [if_neg hm, List.length_append, List.length_singleton]; omega) hr
  apply Ev.succ
  simp only [spec_l05Readers.l1, sr_nat, Int.toNat_natCast, w64_succ (show j < 9223372036854775807 by omega)]
  refine Ev.cond (fun _ => ?_) (fun h' => absurd c6 h')
  refine Ev.cond (fun _ => ?_) (fun h' => absurd c5 h')
  refine Ev.cond (fun _ => ?_) (fun h' => absurd c1 h')
  refine Ev.cond (fun _ => ?_) (fun h' => absurd c2 h')
  refine Ev.cond (fun _ => ?_) (fun h' => absurd c3 h')
  refine Ev.bind hx ?_
  unfold insS at h3
  by_cases hm : (sn ws i).extract 0 j ∈ R
  ·rw [if_pos hm] at h3
   have hp := (idxS_pos R 0 _).2 hm
   exact Ev.cond (fun h' => absurd h' (by omega)) (fun _ => h3)
  ·rw [if_neg hm] at h3
   have hp : ¬ 0 ≤ idxS R 0 ((sn ws i).extract 0 j) := fun h => hm ((idxS_pos R 0 _).1 h)
   refine Ev.cond (fun _ => ?_) (fun h' => absurd (by omega) h')
   exact Ev.cond (fun _ => h3) (fun h' => absurd c4 h')
theorem l05Readers_l0 (ws : List ByteArray) (hn : ws.length ≤ 1099511627776) (hs : totS ws ≤ 1099511627776) : ∀ d n (R : List ByteArray), n + d = ws.length → R.length + totS (ws.drop n) ≤ 1099511627776 → Ev (fun k => spec_l05Readers.l0 k ws R (n : Int)) (onceS (allP (ws.drop n)) R) := by
 intro d
 induction d with
 | zero =>
  intro n R h hR
  have c1 : ¬ (n : Int) < (ws.length : Int) := by omega
  rw [List.drop_eq_nil_of_le (by omega)]
  apply Ev.succ
  simp only [spec_l05Readers.l0]
  exact Ev.cond (fun h' => absurd h' c1) (fun _ => Ev.now _)
 | succ d ih =>
  intro n R h hR
  have c1 : (n : Int) < (ws.length : Int) := by omega
  have hz := sn_size ws n
  rw [drop_sn (show n < ws.length by omega)] at hR ⊢
  unfold totS at hR
  have hl := onceS_length (begs (sn ws n) 0 (sn ws n).size) R
  rw [begs_length] at hl
  have h3 := ih (n + 1) (onceS (begs (sn ws n) 0 (sn ws n).size) R) (by omega) (by omega)
  have e : onceS (allP (sn ws n :: ws.drop (n + 1))) R = onceS (allP (ws.drop (n + 1))) (onceS (begs (sn ws n) 0 (sn ws n).size) R) := by
   unfold onceS
   rw [← List.foldl_append]; rfl
  rw [e]
  apply Ev.succ
  simp only [spec_l05Readers.l0]
  exact Ev.cond (fun _ => l05Readers_l1 ws hn n (by omega) (by omega) (sn ws n).size 0 R (by omega) (by omega) h3) (fun h' => absurd c1 h')
theorem l05Readers_ev (ws : List ByteArray) (hn : ws.length ≤ 1099511627776) (hs : totS ws ≤ 1099511627776) : Ev (fun k => spec_l05Readers.f k ws) (rdrs ws) := by
 have h := l05Readers_l0 ws hn hs ws.length 0 [] (by omega) (by rw [List.drop_zero]; simpa using hs)
 rw [List.drop_zero] at h
 exact h
theorem l05Read_ev (ws : List ByteArray) (hn : ws.length ≤ 1099511627776) (r b : ByteArray) (hs : r.size + b.size ≤ 1099511627776) : Ev (fun k => spec_l05Read.f k ws r b) (rdB ws r b) := by
 have c1 : r.size + b.size ≤ 9223372036854775807 := by omega
 unfold spec_l05Read.f rdB
 refine Ev.cond (fun _ => ?_) (fun h' => absurd c1 h')
 refine Ev.bind (l03Index_ev ws (r ++ b) hn) ?_
 by_cases hm : r ++ b ∈ ws
 ·rw [if_pos hm]
  exact Ev.cond (fun _ => Ev.now _) (fun h' => absurd ((idxS_pos _ _ _).2 hm) h')
 ·rw [if_neg hm]
  exact Ev.cond (fun h' => absurd ((idxS_pos _ _ _).1 h') hm) (fun _ => Ev.now _)
theorem l05Ends_l0 (ws : List ByteArray) (hn : ws.length ≤ 1099511627776) (s : ByteArray) (hs : s.size ≤ 1099511627776) : ∀ d n (out : List Int), n + d = s.size → out.length ≤ n → Ev (fun k => spec_l05Ends.l0 k ws s out (rdN ws s n) (n : Int)) (out ++ ownL ws s (n + 1) d) := by
 intro d
 induction d with
 | zero =>
  intro n out h ho
  have c1 : ¬ (n : Int) < (s.size : Int) := by omega
  have e : out ++ ownL ws s (n + 1) 0 = out := by
   have e2 : ownL ws s (n + 1) 0 = [] := rfl
   rw [e2, List.append_nil]
  rw [e]
  apply Ev.succ
  simp only [spec_l05Ends.l0]
  exact Ev.cond (fun h' => absurd h' c1) (fun _ => Ev.now _)
 | succ d ih =>
  intro n out h ho
  have hl : n < s.size := by omega
  have c1 : (n : Int) < (s.size : Int) := by omega
  have c2 : (0 : Int) ≤ (n : Int) := by omega
  have c3 : (n : Int) ≤ ((n + 1 : Nat) : Int) := by omega
  have c4 : ((n + 1 : Nat) : Int) ≤ (s.size : Int) := by omega
  have c5 : out.length < 17592186044416 := by omega
  have z1 := rdN_size ws s n (by omega)
  have hr : Ev (fun k => spec_l05Read.f k ws (rdN ws s n) (s.extract n (n + 1))) (rdN ws s (n + 1)) := l05Read_ev ws hn (rdN ws s n) (sb s n) (by rw [sb_size hl]; omega)
  rw [ownL_succ]
  apply Ev.succ
  simp only [spec_l05Ends.l0, w64_succ (show n < 9223372036854775807 by omega), Int.toNat_natCast]
  refine Ev.cond (fun _ => ?_) (fun h' => absurd c1 h')
  refine Ev.cond (fun _ => ?_) (fun h' => absurd c2 h')
  refine Ev.cond (fun _ => ?_) (fun h' => absurd c3 h')
  refine Ev.cond (fun _ => ?_) (fun h' => absurd c4 h')
  refine Ev.bind hr ?_
  by_cases he : endAt ws s (n + 1) = true
  ·rw [if_pos he]
   have h3 := ih (n + 1) (out ++ [((n + 1 : Nat) : Int)]) (by omega) (by rw [List.length_append, List.length_singleton]; omega)
   rw [List.append_assoc, List.singleton_append] at h3
   refine Ev.cond (fun _ => ?_) (fun h' => absurd (eq_of_beq he) h')
   exact Ev.cond (fun _ => h3) (fun h' => absurd c5 h')
  ·rw [if_neg he]
   have h3 := ih (n + 1) out (by omega) (by omega)
   exact Ev.cond (fun h' => absurd (beq_iff_eq.2 h') he) (fun _ => h3)
theorem l05Ends_ev (ws : List ByteArray) (hn : ws.length ≤ 1099511627776) (s : ByteArray) (hs : s.size ≤ 1099511627776) : Ev (fun k => spec_l05Ends.f k ws s) (ownL ws s 1 s.size) := l05Ends_l0 ws hn s hs s.size 0 [] (by omega) (Nat.le_refl _)
theorem l01Bits_l0 (s : ByteArray) (hn : s.size ≤ 1099511627776) : ∀ d n, n + d = s.size → Ev (fun k => spec_l01Bits.l0 k s (n : Int)) ((s.data.toList.drop n).all isBitB && decide (s.size ≤ 400)) := by
 intro d
 induction d with
 | zero =>
  intro n h
  apply Ev.succ
  have h1 : ¬ ((n : Int) < (s.size : Int)) := by omega
  have h2 : s.data.toList.drop n = [] := List.drop_eq_nil_of_le (by rw [size_data]; omega)
  have h3 : ((s.size : Int) ≤ 400) = (s.size ≤ 400) := propext ⟨fun h => by omega, fun h => by omega⟩
  simp only [spec_l01Bits.l0, h1, if_false, h2, h3]
  exact Ev.now _
 | succ d ih =>
  intro n h
  apply Ev.succ
  have hl : n < s.size := by omega
  have h1 : (n : Int) < (s.size : Int) := by omega
  have h2 : (0 : Int) ≤ (n : Int) := by omega
  have h3 := ih (n + 1) (by omega)
  rw [drop_data hl, List.all_cons]
  have hb := bt_nat s n hl
  have hi := isBit_iff (s[n])
  rw [← hb] at hi
  simp only [spec_l01Bits.l0, h1, h2, if_true, w64_succ (show n < 9223372036854775807 by omega)]
  by_cases c1 : bt s (n : Int) = 48
  ·rw [hi.2 (.inl c1), Bool.true_and]
   simp only [c1, if_true]; exact h3
  ·by_cases c2 : bt s (n : Int) = 49
   ·rw [hi.2 (.inr c2), Bool.true_and]
    simp only [c2, if_true, Int.reduceEq, if_false]; exact h3
   ·have hf : isBitB (s[n]) = false := by
     rw [Bool.eq_false_iff]; intro hc
     rcases hi.1 hc with hc | hc
     ·exact c1 hc
     ·exact c2 hc
    simp only [hf, Bool.false_and, c1, c2, if_false]
    exact Ev.now _
theorem l01Bits_ev (s : ByteArray) (hn : s.size ≤ 1099511627776) : Ev (fun k => spec_l01Bits.f k s) (bitsB s) := by
 have h := l01Bits_l0 s hn s.size 0 (by omega)
 exact h
theorem bitsB_few {s : ByteArray} (h : s.size ≤ 400) : bitsB s = s.data.toList.all isBitB := by unfold bitsB; rw [decide_eq_true h, Bool.and_true]
theorem l05Is_l0 (ws : List ByteArray) (hn : ws.length ≤ 1000) (hs : totS ws ≤ 1099511627776) : ∀ d n, n + d = ws.length → Ev (fun k => spec_l05Is.l0 k ws (n : Int)) (codeR ws n d) := by
 intro d
 induction d with
 | zero =>
  intro n h
  have c1 : ¬ (n : Int) < (ws.length : Int) := by omega
  apply Ev.succ
  simp only [spec_l05Is.l0]
  exact Ev.cond (fun h' => absurd h' c1) (fun _ => Ev.now _)
 | succ d ih =>
  intro n h
  have c1 : (n : Int) < (ws.length : Int) := by omega
  have c2 : (0 : Int) ≤ (n : Int) := by omega
  have c4 : (n : Int) ≤ (ws.length : Int) := by omega
  have h3 := ih (n + 1) (by omega)
  have z1 := Nat.le_trans (sn_size ws n) hs
  have hi := l03Index_ev (ws.take n) (sn ws n) (by rw [List.length_take]; omega)
  rw [codeR_succ]
  unfold codeI
  apply Ev.succ
  simp only [spec_l05Is.l0, sr_nat, w64_succ (show n < 9223372036854775807 by omega), Int.toNat_natCast]
  refine Ev.cond (fun _ => ?_) (fun h' => absurd c1 h')
  refine Ev.cond (fun _ => ?_) (fun h' => absurd c2 h')
  refine Ev.cond (fun h1 => ?_) (fun h1 => ?_)
  ·rw [decide_eq_false (show ¬ (1 ≤ (sn ws n).size ∧ (sn ws n).size ≤ 12) by omega)]; exact Ev.now _
  refine Ev.cond (fun h2 => ?_) (fun h2 => ?_)
  ·rw [decide_eq_false (show ¬ (1 ≤ (sn ws n).size ∧ (sn ws n).size ≤ 12) by omega)]; exact Ev.now _
  rw [decide_eq_true (show 1 ≤ (sn ws n).size ∧ (sn ws n).size ≤ 12 by omega), Bool.true_and]
  refine Ev.bind (l01Bits_ev _ z1) ?_
  rw [bitsB_few (show (sn ws n).size ≤ 400 by omega)]
  rcases (sn ws n).data.toList.all isBitB with _ | _
  ·exact Ev.cond (fun h' => absurd h' (by decide)) (fun _ => Ev.now _)
  refine Ev.cond (fun _ => ?_) (fun h' => absurd rfl h')
  refine Ev.cond (fun _ => ?_) (fun h' => absurd c4 h')
  refine Ev.bind hi ?_
  by_cases hm : sn ws n ∈ ws.take n
  ·rw [decide_eq_true hm]
   exact Ev.cond (fun _ => Ev.now _) (fun h' => absurd ((idxS_pos _ _ _).2 hm) h')
  ·rw [decide_eq_false hm]
   exact Ev.cond (fun h' => absurd ((idxS_pos _ _ _).1 h') hm) (fun _ => h3)
theorem l05Is_ev (ws : List ByteArray) (hn : ws.length ≤ 1099511627776) (hs : totS ws ≤ 1099511627776) : Ev (fun k => spec_l05Is.f k ws) (codeB ws) := by
 unfold spec_l05Is.f codeB
 by_cases h1 : 1 ≤ ws.length
 ·have c1 : ¬ (ws.length : Int) < 1 := by omega
  refine Ev.cond (fun h' => absurd h' c1) (fun _ => ?_)
  apply Ev.succ
  simp only [spec_l05Is.j0]
  by_cases h2 : ws.length ≤ 16
  ·rw [decide_eq_true (show 1 ≤ ws.length ∧ ws.length ≤ 16 from ⟨h1, h2⟩), Bool.true_and, decide_eq_false (show ¬ (ws.length : Int) > 16 by omega)]
   exact Ev.cond (fun h' => absurd h' (by decide)) (fun _ => l05Is_l0 ws (by omega) hs ws.length 0 (by omega))
  ·rw [decide_eq_false (show ¬ (1 ≤ ws.length ∧ ws.length ≤ 16) from fun h => h2 h.2), decide_eq_true (show (ws.length : Int) > 16 by omega)]
   exact Ev.cond (fun _ => Ev.now _) (fun h' => absurd rfl h')
 ·have c1 : (ws.length : Int) < 1 := by omega
  rw [decide_eq_false (show ¬ (1 ≤ ws.length ∧ ws.length ≤ 16) from fun h => h1 h.1)]
  refine Ev.cond (fun _ => ?_) (fun h' => absurd c1 h')
  apply Ev.succ
  simp only [spec_l05Is.j0]
  exact Ev.cond (fun _ => Ev.now _) (fun h' => absurd (by trivial) h')
theorem l01At_zero (s p : ByteArray) (hp : p.size ≤ 1099511627776) : spec_l01At.f s p 0 = some (isPre p s) := by
 unfold spec_l01At.f isPre
 have e : wrap64 (0 + (p.size : Int)) = (p.size : Int) := by rw [w64 (by omega) (by omega)]; omega
 simp only [e]
 by_cases h : p.size ≤ s.size
 ·have c1 : (p.size : Int) ≤ (s.size : Int) := by omega
  have c2 : (0 : Int) ≤ (p.size : Int) := by omega
  rw [if_pos c1, if_pos (Int.le_refl 0), if_pos c2, decide_eq_true h, Bool.true_and]
  simp only [Int.toNat_natCast]; rfl
 ·have c1 : ¬ (p.size : Int) ≤ (s.size : Int) := by omega
  rw [if_neg c1, decide_eq_false h]; rfl
theorem l05Prefix_l1 (ws : List ByteArray) (hn : ws.length ≤ 1000) (hs : totS ws ≤ 1099511627776) (i : Nat) (hi : i < ws.length) {r : Bool} (hr : Ev (fun k => spec_l05Prefix.l0 k ws ((i + 1 : Nat) : Int)) r) :
 ∀ d n, n + d = ws.length → Ev (fun k => spec_l05Prefix.l1 k ws (i : Int) (n : Int)) (preR ws i n d && r) := by
 have w1 := w64_succ (show i < 9223372036854775807 by omega)
 have c5 : (i : Int) < (ws.length : Int) := by omega
 have c6 : (0 : Int) ≤ (i : Int) := by omega
 intro d
 induction d with
 | zero =>
  intro n h
  have c1 : ¬ (n : Int) < (ws.length : Int) := by omega
  apply Ev.succ
  simp only [spec_l05Prefix.l1, w1]
  exact Ev.cond (fun h' => absurd h' c1) (fun _ => hr)
 | succ d ih =>
  intro n h
  have c1 : (n : Int) < (ws.length : Int) := by omega
  have c2 : (0 : Int) ≤ (n : Int) := by omega
  have h3 := ih (n + 1) (by omega)
  have z1 := Nat.le_trans (sn_size ws i) hs
  rw [preR_succ]
  apply Ev.succ
  simp only [spec_l05Prefix.l1, sr_nat, w64_succ (show n < 9223372036854775807 by omega), l01At_zero _ _ z1, Option.bind_some]
  refine Ev.cond (fun _ => ?_) (fun h' => absurd c1 h')
  by_cases hk : i = n
  ·rw [decide_eq_true hk, Bool.true_or, Bool.true_and]
   exact Ev.cond (fun _ => h3) (fun h' => absurd (by rw [hk]) h')
  ·rw [decide_eq_false hk, Bool.false_or]
   refine Ev.cond (fun h' => absurd (by omega) hk) (fun _ => ?_)
   refine Ev.cond (fun _ => ?_) (fun h' => absurd c2 h')
   refine Ev.cond (fun _ => ?_) (fun h' => absurd c6 h')
   refine Ev.cond (fun _ => ?_) (fun h' => absurd c5 h')
   rcases isPre (sn ws i) (sn ws n) with _ | _
   ·exact Ev.cond (fun h' => absurd h' (by decide)) (fun _ => h3)
   ·exact Ev.cond (fun _ => Ev.now _) (fun h' => absurd rfl h')
theorem l05Prefix_l0 (ws : List ByteArray) (hn : ws.length ≤ 1000) (hs : totS ws ≤ 1099511627776) : ∀ d n, n + d = ws.length → Ev (fun k => spec_l05Prefix.l0 k ws (n : Int)) (prefR ws n d) := by
 intro d
 induction d with
 | zero =>
  intro n h
  have c1 : ¬ (n : Int) < (ws.length : Int) := by omega
  apply Ev.succ
  simp only [spec_l05Prefix.l0]
  exact Ev.cond (fun h' => absurd h' c1) (fun _ => Ev.now _)
 | succ d ih =>
  intro n h
  have c1 : (n : Int) < (ws.length : Int) := by omega
  have h3 := l05Prefix_l1 ws hn hs n (by omega) (ih (n + 1) (by omega)) ws.length 0 (by omega)
  rw [prefR_succ]
  apply Ev.succ
  simp only [spec_l05Prefix.l0]
  exact Ev.cond (fun _ => h3) (fun h' => absurd c1 h')
theorem l05Kraft_l0 (ws : List ByteArray) (hn : ws.length ≤ 1000) (hs : ∀ i, (sn ws i).size ≤ 12) : ∀ d n a, n + d = ws.length → Ev (fun k => spec_l05Kraft.l0 k ws a (n : Int)) (krF (ws.drop n) a) := by
 intro d
 induction d with
 | zero =>
  intro n a h
  have c1 : ¬ (n : Int) < (ws.length : Int) := by omega
  rw [List.drop_eq_nil_of_le (by omega)]
  apply Ev.succ
  simp only [spec_l05Kraft.l0]
  exact Ev.cond (fun h' => absurd h' c1) (fun _ => Ev.now _)
 | succ d ih =>
  intro n a h
  have c1 : (n : Int) < (ws.length : Int) := by omega
  have c2 : (0 : Int) ≤ (n : Int) := by omega
  have hz := hs n
  have e : IntKind.u64.wrap (wrap64 (12 - ((sn ws n).size : Int))) = 12 - ((sn ws n).size : Int) := by
   rw [w64 (by omega) (by omega)]
   have e2 : ∀ z : Int, IntKind.u64.wrap z = z % 18446744073709551616 := fun z => by simp [IntKind.wrap, IntKind.bits, IntKind.signed]
   rw [e2]; omega
  have c3 : (0 : Int) ≤ 12 - ((sn ws n).size : Int) := by omega
  have h3 := ih (n + 1) (wrap64 (a + shl .i64 1 (12 - ((sn ws n).size : Int)))) (by omega)
  rw [drop_sn (show n < ws.length by omega)]
  unfold krF
  apply Ev.succ
  simp only [spec_l05Kraft.l0, sr_nat, w64_succ (show n < 9223372036854775807 by omega), e]
  refine Ev.cond (fun _ => ?_) (fun h' => absurd c1 h')
  refine Ev.cond (fun _ => ?_) (fun h' => absurd c2 h')
  exact Ev.cond (fun _ => h3) (fun h' => absurd c3 h')
theorem l05Complete_ev (ws : List ByteArray) (hc : codeB ws = true) (hs : totS ws ≤ 1099511627776) : Ev (fun k => spec_l05Complete.f k ws) (complB ws) := by
 obtain ⟨h1, h2⟩ := codeB_len hc
 unfold spec_l05Complete.f spec_l05Prefix.f spec_l05Kraft.f complB
 refine Ev.bind (l05Prefix_l0 ws (by omega) hs ws.length 0 (by omega)) ?_
 rcases prefR ws 0 ws.length with _ | _
 ·exact Ev.cond (fun h' => absurd h' (by decide)) (fun _ => Ev.now _)
 refine Ev.cond (fun _ => ?_) (fun h' => absurd rfl h')
 refine Ev.bind (l05Kraft_l0 ws (by omega) (codeB_size hc) ws.length 0 0 (by omega)) (Ev.const ?_)
 rw [List.drop_zero, Bool.true_and]
 congr 1
theorem bsT_str {b : Nat} (hb : b < 2) : strOfNums ([(wrap64 (48 + (b : Int))) % 256] : List Int) = bsT b := by
 have h : b = 0 ∨ b = 1 := by omega
 rcases h with rfl | rfl
 ·have e : (wrap64 (48 + ((0 : Nat) : Int))) % 256 = 48 := by decide +kernel
  rw [e]; rfl
 ·have e : (wrap64 (48 + ((1 : Nat) : Int))) % 256 = 49 := by decide +kernel
  rw [e]; rfl
def nxL (ws R : List ByteArray) (b k : Nat) : List Int := pre (fun i => ((pl R (rdB ws (sn R i) (bsT b)) : Nat) : Int)) k
theorem nxL_length (ws R : List ByteArray) (b k : Nat) : (nxL ws R b k).length = k := pre_length _ _
theorem nxL_rd (ws R : List ByteArray) (b k : Nat) {i : Nat} (h : i < k) : rd (nxL ws R b k) (i : Int) = ((pl R (rdB ws (sn R i) (bsT b)) : Nat) : Int) := by
 rw [rd_get (by rw [nxL_length]; exact h)]
 unfold nxL pre
 rw [List.getElem_map, List.getElem_range]
theorem rdRow_set (x : List (List Int)) (b : Nat) (h : b < x.length) (y : List Int) : rd_L3 (x.set b y) (b : Int) = y := by
 unfold rd_L3
 rw [Int.toNat_natCast, List.getD_eq_getElem?_getD, List.getElem?_set_self h]; rfl
theorem SyS_l1 {ws R : List ByteArray} (h : Rd ws R) (hn : ws.length ≤ 1099511627776) (b : Nat) (hb : b < 2) (x : List (List Int)) (hx : x.length = 2) {r : ByteArray × Bool} (hr : Ev (fun k => spec_SyncWord.l0 k ws R (R.length : Int) (x.set b (nxL ws R b R.length)) ((b + 1 : Nat) : Int)) r) :
 ∀ d i, i + d = R.length → Ev (fun k => spec_SyncWord.l1 k ws R (R.length : Int) (x.set b (nxL ws R b i)) (b : Int) (i : Int)) r := by
 have hf := h.few
 intro d
 induction d with
 | zero =>
  intro i hi
  obtain rfl : i = R.length := by omega
  have c1 : ¬ ((R.length : Nat) : Int) < (R.length : Int) := by omega
  apply Ev.succ
  simp only [spec_SyncWord.l1, w64_succ (show b < 9223372036854775807 by omega)]
  exact Ev.cond (fun h' => absurd h' c1) (fun _ => hr)
 | succ d ih =>
  intro i hi
  have hl : i < R.length := by omega
  have c1 : (i : Int) < (R.length : Int) := by omega
  have c2 : (0 : Int) ≤ (b : Int) := by omega
  have c3 : (b : Int) < ((x.set b (nxL ws R b i)).length : Int) := by rw [List.length_set]; omega
  have c4 : (0 : Int) ≤ (i : Int) := by omega
  have c5 : (nxL ws R b i).length < 17592186044416 := by rw [nxL_length]; omega
  have hm := sn_mem hl
  have z1 := (h.bits _ hm).1
  have h1 := l05Read_ev ws hn (sn R i) (bsT b) (by rw [bsT_size]; omega)
  have h2 := l03Index_ev R (rdB ws (sn R i) (bsT b)) (by omega)
  have hp := pl_at (h.next _ hm b)
  rw [hp.2.1] at h2
  have h3 := ih (i + 1) (by omega)
  have e : nxL ws R b (i + 1) = nxL ws R b i ++ [((pl R (rdB ws (sn R i) (bsT b)) : Nat) : Int)] := pre_succ _ _
  rw [e] at h3
  apply Ev.succ
  simp only [spec_SyncWord.l1, sr_nat, Int.toNat_natCast, rdRow_set x b (by omega), List.set_set, bsT_str hb, w64_succ (show i < 9223372036854775807 by omega)]
  refine Ev.cond (fun _ => ?_) (fun h' => absurd c1 h')
  refine Ev.cond (fun _ => ?_) (fun h' => absurd c2 h')
  refine Ev.cond (fun _ => ?_) (fun h' => absurd c3 h')
  refine Ev.cond (fun _ => ?_) (fun h' => absurd c4 h')
  refine Ev.cond (fun _ => ?_) (fun h' => absurd c1 h')
  refine Ev.bind h1 (Ev.bind h2 ?_)
  exact Ev.cond (fun _ => h3) (fun h' => absurd c5 h')
def nxT (ws R : List ByteArray) : List (List Int) := [nxL ws R 0 R.length, nxL ws R 1 R.length]
theorem nxT_row (ws R : List ByteArray) {b : Nat} (hb : b < 2) : rd_L3 (nxT ws R) (b : Int) = nxL ws R b R.length := by
 have h : b = 0 ∨ b = 1 := by omega
 rcases h with rfl | rfl <;> rfl
theorem SyS_l0 {ws R : List ByteArray} (h : Rd ws R) (hn : ws.length ≤ 1099511627776) {r : ByteArray × Bool} (hr : Ev (fun k => spec_SyncWord.l0 k ws R (R.length : Int) (nxT ws R) 2) r) :
 Ev (fun k => spec_SyncWord.l0 k ws R (R.length : Int) (List.replicate 2 []) 0) r := by
 have s1 : Ev (fun k => spec_SyncWord.l0 k ws R (R.length : Int) [nxL ws R 0 R.length, []] 1) r := by
  have h1 := SyS_l1 h hn 1 (by decide) [nxL ws R 0 R.length, []] rfl (r := r) hr R.length 0 (by omega)
  apply Ev.succ
  simp only [spec_SyncWord.l0]
  exact Ev.cond (fun _ => h1) (fun h' => absurd (by decide) h')
 have h0 := SyS_l1 h hn 0 (by decide) [[], []] rfl (r := r) s1 R.length 0 (by omega)
 apply Ev.succ
 simp only [spec_SyncWord.l0]
 exact Ev.cond (fun _ => h0) (fun h' => absurd (by decide) h')
theorem SyS_l4 {ws R : List ByteArray} (h : Rd ws R) (b : Nat) (hb : b < 2) (g : Int) (F q : List Int) (at_ : Int) (m : Nat) (hm : m < 2 ^ R.length) {r : ByteArray × Bool}
 (hr : Ev (fun k => spec_SyncWord.l4 k (R.length : Int) (nxT ws R) g F q at_ (m : Int) (b : Int) ((stp ws R b m : Nat) : Int) (R.length : Int)) r) :
 ∀ d i, i + d = R.length → Ev (fun k => spec_SyncWord.l4 k (R.length : Int) (nxT ws R) g F q at_ (m : Int) (b : Int) ((stpG (fun i => pl R (rdB ws (sn R i) (bsT b))) m i 0 : Nat) : Int) (i : Int)) r := by
 have hf := h.few
 have hp15 : 2 ^ R.length ≤ 2 ^ 15 := Nat.pow_le_pow_right (by decide) hf
 have h62 : (2 : Nat) ^ 15 < 2 ^ 62 := by decide
 intro d
 induction d with
 | zero =>
  intro i hi
  obtain rfl : i = R.length := by omega
  exact hr
 | succ d ih =>
  intro i hi
  have hl : i < R.length := by omega
  have c1 : (i : Int) < (R.length : Int) := by omega
  have c2 : (0 : Int) ≤ (i : Int) := by omega
  have c3 : (0 : Int) ≤ (b : Int) := by omega
  have c4 : (b : Int) < ((nxT ws R).length : Int) := by show (b : Int) < 2; omega
  have c5 : (i : Int) < ((nxL ws R b R.length).length : Int) := by rw [nxL_length]; omega
  have hx := h.nx_lt b i hl
  have ha := stpG_lt (fun i => pl R (rdB ws (sn R i) (bsT b))) m R.length (h.nx_lt b) i (by omega)
  have h3 := ih (i + 1) (by omega)
  generalize hA : stpG (fun i => pl R (rdB ws (sn R i) (bsT b))) m i 0 = A at ha h3 ⊢
  have hlt : 2 ^ (pl R (rdB ws (sn R i) (bsT b))) < 2 ^ 62 := Nat.pow_lt_pow_right (by decide) (by omega)
  have e1 : Go.bits .or .i64 (A : Int) (shl .i64 1 ((pl R (rdB ws (sn R i) (bsT b)) : Nat) : Int)) = ((A ||| 2 ^ (pl R (rdB ws (sn R i) (bsT b))) : Nat) : Int) := by
   rw [shl_one (by omega), bits_or (Nat.lt_of_lt_of_le ha (Nat.le_trans hp15 (Nat.le_of_lt h62))) hlt]
  have e2 := bit_at m i (Nat.lt_trans (Nat.lt_of_lt_of_le hm hp15) h62) (by omega)
  have e3 : m.testBit i = decide (m / 2 ^ i % 2 = 1) := Nat.testBit_eq_decide_div_mod_eq
  unfold stpG at h3
  simp only [hA] at h3
  apply Ev.succ
  simp only [spec_SyncWord.l4, u64_nat (show i < 2 ^ 63 by omega), e2, nxT_row ws R hb, nxL_rd ws R b R.length hl, u64_nat (show pl R (rdB ws (sn R i) (bsT b)) < 2 ^ 63 by omega), e1, w64_succ (show i < 9223372036854775807 by omega)]
  refine Ev.cond (fun _ => ?_) (fun h' => absurd c1 h')
  refine Ev.cond (fun _ => ?_) (fun h' => absurd c2 h')
  by_cases hbit : m / 2 ^ i % 2 = 1
  ·rw [if_pos (by rw [e3]; exact decide_eq_true hbit)] at h3
   refine Ev.cond (fun _ => ?_) (fun h' => absurd (by rw [hbit]; rfl) h')
   refine Ev.cond (fun _ => ?_) (fun h' => absurd c3 h')
   refine Ev.cond (fun _ => ?_) (fun h' => absurd c4 h')
   refine Ev.cond (fun _ => ?_) (fun h' => absurd c2 h')
   refine Ev.cond (fun _ => ?_) (fun h' => absurd c5 h')
   exact Ev.cond (fun _ => h3) (fun h' => absurd (Int.natCast_nonneg _) h')
  ·rw [if_neg (by rw [e3]; intro h'; exact hbit (of_decide_eq_true h'))] at h3
   exact Ev.cond (fun h' => absurd (by omega) hbit) (fun _ => h3)
inductive Bk (F : List Int) : Nat → ByteArray → Prop
 | root {m : Nat} (h : F.getD m 0 = -1) : Bk F m ⟨#[]⟩
 | step {m m' b : Nat} {s : ByteArray} (h : F.getD m 0 = ((2 * m' + b : Nat) : Int)) (hb : b < 2) (h0 : 0 < m') (t : Bk F m' s) : Bk F m (s ++ bsT b)
theorem Bk.ne {F : List Int} {m : Nat} {s : ByteArray} (h : Bk F m s) : F.getD m 0 ≠ 0 := by
 cases h with
 | root h => rw [h]; decide
 | step h hb h0 t => rw [h]; omega
theorem getD_lt {F : List Int} {m : Nat} (h : F.getD m 0 ≠ 0) : m < F.length := by
 rcases Nat.lt_or_ge m F.length with h1 | h1
 ·exact h1
 ·rw [List.getD_eq_getElem?_getD, List.getElem?_eq_none h1] at h
  exact absurd rfl h
theorem getD_set {F : List Int} {t : Nat} (ht : t < F.length) (v : Int) (m : Nat) : (F.set t v).getD m 0 = if t = m then v else F.getD m 0 := by
 rw [List.getD_eq_getElem?_getD, List.getElem?_set]
 by_cases h : t = m
 ·rw [if_pos h, if_pos h]; simp [ht, ← h]
 ·rw [if_neg h, if_neg h, List.getD_eq_getElem?_getD]
theorem Bk.kept {F : List Int} {t : Nat} (ht : t < F.length) (h0 : F.getD t 0 = 0) (v : Int) {m : Nat} {s : ByteArray} (h : Bk F m s) : Bk (F.set t v) m s := by
 induction h with
 | root h =>
  refine .root ?_
  rw [getD_set ht, if_neg (by rintro rfl; rw [h] at h0; exact absurd h0 (by decide)), h]
 | step h hb h1 t2 ih =>
  refine .step ?_ hb h1 ih
  rw [getD_set ht, if_neg (by rintro rfl; rw [h] at h0; omega), h]
theorem str_app (a b : List Int) : strOfNums (a ++ b) = strOfNums a ++ strOfNums b := by
 apply ByteArray.ext
 rw [ByteArray.data_append]
 apply Array.ext'
 rw [Array.toList_append, strOfNums_data, strOfNums_data, strOfNums_data, List.map_append]
theorem back_ev {F : List Int} (hF : F.length ≤ 1099511627776) {m : Nat} {s : ByteArray} (h : Bk F m s) : ∀ acc : List Int, acc.length + s.size ≤ 1099511627776 → Ev (fun k => spec_l05Back.l0 k F (m : Int) acc) (s ++ strOfNums acc) := by
 induction h with
 | @root m h =>
  intro acc ha
  have hm : m < F.length := getD_lt (by rw [h]; decide)
  have c1 : (0 : Int) ≤ (m : Int) := by omega
  have c2 : (m : Int) < (F.length : Int) := by omega
  have e : (⟨#[]⟩ : ByteArray) ++ strOfNums acc = strOfNums acc := by
   apply ByteArray.ext; rw [ByteArray.data_append]; apply Array.ext'; rw [Array.toList_append]; rfl
  rw [e]
  apply Ev.succ
  simp only [spec_l05Back.l0, rd_nat, h]
  refine Ev.cond (fun _ => ?_) (fun h' => absurd c1 h')
  refine Ev.cond (fun _ => ?_) (fun h' => absurd c2 h')
  exact Ev.cond (fun h' => absurd h' (by decide)) (fun _ => Ev.now _)
 | @step m m' b s h hb h0 t ih =>
  intro acc ha
  have hm : m < F.length := getD_lt (by rw [h]; omega)
  have hm' : m' < F.length := getD_lt t.ne
  have c1 : (0 : Int) ≤ (m : Int) := by omega
  have c2 : (m : Int) < (F.length : Int) := by omega
  have c3 : ((2 * m' + b : Nat) : Int) ≥ 0 := by omega
  have e1 : Int.tmod ((2 * m' + b : Nat) : Int) 2 = (b : Int) := by
   rw [Int.tmod_eq_emod_of_nonneg (by omega)]; omega
  have e2 : wrap64 (Int.tdiv ((2 * m' + b : Nat) : Int) 2) = (m' : Int) := by
   rw [Int.tdiv_eq_ediv_of_nonneg (by omega)]
   have e3 : ((2 * m' + b : Nat) : Int) / 2 = (m' : Int) := by omega
   rw [e3, w64 (by omega) (by omega)]
  rw [ByteArray.size_append, bsT_size] at ha
  have h3 := ih (([(wrap64 (48 + (b : Int))) % 256] : List Int) ++ acc) (by rw [List.length_append, List.length_singleton]; omega)
  have c4 : ([(wrap64 (48 + (b : Int))) % 256] : List Int).length + acc.length < 140737488355328 := by rw [List.length_singleton]; omega
  rw [str_app, bsT_str hb, ← ByteArray.append_assoc] at h3
  apply Ev.succ
  simp only [spec_l05Back.l0, rd_nat, h, e1, e2, Option.bind_some]
  refine Ev.cond (fun _ => ?_) (fun h' => absurd c1 h')
  refine Ev.cond (fun _ => ?_) (fun h' => absurd c2 h')
  refine Ev.cond (fun _ => ?_) (fun h' => absurd c3 h')
  exact Ev.cond (fun _ => h3) (fun h' => absurd c4 h')
theorem str_nil (s : ByteArray) : s ++ strOfNums [] = s := by
 apply ByteArray.ext; rw [ByteArray.data_append]; apply Array.ext'; rw [Array.toList_append]; exact List.append_nil _
theorem back_f {F : List Int} (hF : F.length ≤ 1099511627776) {m : Nat} {s : ByteArray} (h : Bk F m s) (hs : s.size ≤ 1099511627776) : Ev (fun k => spec_l05Back.f k F (m : Int)) s := by
 have h1 := back_ev hF h [] (by rw [List.length_nil]; omega)
 rw [str_nil] at h1
 exact h1
theorem readI_ev (ws : List ByteArray) (hn : ws.length ≤ 1099511627776) (r b : ByteArray) (hs : r.size + b.size ≤ 1099511627776) : Ev (fun k => impl_read.f k ws r b) (rdB ws r b) := by
 have c1 : r.size + b.size ≤ 9223372036854775807 := by omega
 unfold impl_read.f rdB
 refine Ev.cond (fun _ => ?_) (fun h' => absurd c1 h')
 refine Ev.bind (sContains_ev ws (r ++ b) hn) ?_
 by_cases hm : r ++ b ∈ ws
 ·rw [if_pos hm, decide_eq_true hm]
  exact Ev.cond (fun _ => Ev.now _) (fun h' => absurd rfl h')
 ·rw [if_neg hm, decide_eq_false hm]
  exact Ev.cond (fun h' => absurd h' (by decide)) (fun _ => Ev.now _)
theorem endsI_l0 (ws : List ByteArray) (hn : ws.length ≤ 1099511627776) (s : ByteArray) (hs : s.size ≤ 1099511627776) : ∀ d n (out : List Bool), n + d = s.size → out.length ≤ n + 1 → Ev (fun k => impl_ends.l0 k ws s out (rdN ws s n) (s.size : Int) (n : Int)) (out ++ (List.range' (n + 1) d).map (endAt ws s)) := by
 intro d
 induction d with
 | zero =>
  intro n out h ho
  have c1 : ¬ (n : Int) < (s.size : Int) := by omega
  have e : out ++ (List.range' (n + 1) 0).map (endAt ws s) = out := List.append_nil out
  rw [e]
  apply Ev.succ
  simp only [impl_ends.l0]
  exact Ev.cond (fun h' => absurd h' c1) (fun _ => Ev.now _)
 | succ d ih =>
  intro n out h ho
  have hl : n < s.size := by omega
  have c1 : (n : Int) < (s.size : Int) := by omega
  have c2 : (0 : Int) ≤ (n : Int) := by omega
  have c3 : (n : Int) ≤ ((n + 1 : Nat) : Int) := by omega
  have c4 : ((n + 1 : Nat) : Int) ≤ (s.size : Int) := by omega
  have c5 : out.length < 140737488355328 := by omega
  have z1 := rdN_size ws s n (by omega)
  have hr : Ev (fun k => impl_read.f k ws (rdN ws s n) (s.extract n (n + 1))) (rdN ws s (n + 1)) := readI_ev ws hn (rdN ws s n) (sb s n) (by rw [sb_size hl]; omega)
  have h3 := ih (n + 1) (out ++ [endAt ws s (n + 1)]) (by omega) (by rw [List.length_append, List.length_singleton]; omega)
  rw [List.append_assoc, List.singleton_append] at h3
  apply Ev.succ
  simp only [impl_ends.l0, w64_succ (show n < 9223372036854775807 by omega), Int.toNat_natCast]
  refine Ev.cond (fun _ => ?_) (fun h' => absurd c1 h')
  refine Ev.cond (fun _ => ?_) (fun h' => absurd c2 h')
  refine Ev.cond (fun _ => ?_) (fun h' => absurd c3 h')
  refine Ev.cond (fun _ => ?_) (fun h' => absurd c4 h')
  refine Ev.bind hr ?_
  exact Ev.cond (fun _ => h3) (fun h' => absurd c5 h')
theorem endsI_ev (ws : List ByteArray) (hn : ws.length ≤ 1099511627776) (s : ByteArray) (hs : s.size ≤ 1099511627776) : Ev (fun k => impl_ends.f k ws s) (true :: (List.range' 1 s.size).map (endAt ws s)) := endsI_l0 ws hn s hs s.size 0 [true] (by omega) (Nat.le_refl _)
theorem endsI_rd (f : Nat → Bool) (m b : Nat) (h1 : 1 ≤ b) (h2 : b ≤ m) : rdOf false (true :: (List.range' 1 m).map f) (b : Int) = f b := by
 unfold rdOf
 rw [Int.toNat_natCast]
 obtain ⟨c, rfl⟩ : ∃ c, b = c + 1 := ⟨b - 1, by omega⟩
 rw [List.getD_eq_getElem?_getD, List.getElem?_cons_succ, List.getElem?_map, List.getElem?_eq_getElem (by rw [List.length_range']; omega), List.getElem_range']
 simp only [Option.map_some, Option.getD_some]
 congr 1
 omega
theorem trim_bits (s : ByteArray) (h : s.size ≤ 9223372036854775807) : strings_Trim.f s (⟨#[48, 49]⟩ : ByteArray) = some ⟨(Lib.trimS s.data.toList [48, 49]).toArray⟩ := by
 unfold strings_Trim.f
 rw [if_pos ⟨h, by decide, by decide⟩]
theorem areBits_eq (s : ByteArray) (h : s.size ≤ 9223372036854775807) : impl_areBits.f s = some (s.data.toList.all isBitB) := by
 unfold impl_areBits.f
 rw [trim_bits s h, Option.bind_some]
 congr 1
 have e1 : (⟨(Lib.trimS s.data.toList [48, 49]).toArray⟩ : ByteArray).toList = Lib.trimS s.data.toList [48, 49] := by rw [Lib.toList_data]
 rw [e1, Bool.eq_iff_iff, beq_iff_eq, trimS_nil]
 have e2 : (fun b => ([48, 49] : List UInt8).contains b) = isBitB := funext contains_bits
 rw [e2]
theorem IsCodeI_l0 (ws : List ByteArray) (hn : ws.length ≤ 1000) (hs : totS ws ≤ 1099511627776) : ∀ d n, n + d = ws.length → Ev (fun k => impl_IsCode.l0 k ws ws (ws.length : Int) (n : Int)) (codeR ws n d) := by
 intro d
 induction d with
 | zero =>
  intro n h
  have c1 : ¬ (n : Int) < (ws.length : Int) := by omega
  apply Ev.succ
  simp only [impl_IsCode.l0]
  exact Ev.cond (fun h' => absurd h' c1) (fun _ => Ev.now _)
 | succ d ih =>
  intro n h
  have c1 : (n : Int) < (ws.length : Int) := by omega
  have c2 : (0 : Int) ≤ (n : Int) := by omega
  have c4 : (n : Int) ≤ (ws.length : Int) := by omega
  have h3 := ih (n + 1) (by omega)
  have z1 := Nat.le_trans (sn_size ws n) hs
  have hi := sContains_ev (ws.take n) (sn ws n) (by rw [List.length_take]; omega)
  rw [codeR_succ]
  unfold codeI
  apply Ev.succ
  simp only [impl_IsCode.l0, sr_nat, w64_succ (show n < 9223372036854775807 by omega), Int.toNat_natCast]
  refine Ev.cond (fun _ => ?_) (fun h' => absurd c1 h')
  refine Ev.cond (fun _ => ?_) (fun h' => absurd c2 h')
  refine Ev.cond (fun _ => ?_) (fun h' => absurd c1 h')
  refine Ev.cond (fun h1 => ?_) (fun h1 => ?_)
  ·rw [decide_eq_false (show ¬ (1 ≤ (sn ws n).size ∧ (sn ws n).size ≤ 12) by omega)]; exact Ev.now _
  refine Ev.cond (fun h2 => ?_) (fun h2 => ?_)
  ·rw [decide_eq_false (show ¬ (1 ≤ (sn ws n).size ∧ (sn ws n).size ≤ 12) by omega)]; exact Ev.now _
  rw [decide_eq_true (show 1 ≤ (sn ws n).size ∧ (sn ws n).size ≤ 12 by omega), Bool.true_and]
  refine Ev.bind (Ev.const (areBits_eq _ (by omega))) ?_
  rcases (sn ws n).data.toList.all isBitB with _ | _
  ·exact Ev.cond (fun h' => absurd h' (by decide)) (fun _ => Ev.now _)
  refine Ev.cond (fun _ => ?_) (fun h' => absurd rfl h')
  refine Ev.cond (fun _ => ?_) (fun h' => absurd c4 h')
  refine Ev.bind hi ?_
  rcases decide (sn ws n ∈ ws.take n) with _ | _
  ·exact Ev.cond (fun h' => absurd h' (by decide)) (fun _ => h3)
  ·exact Ev.cond (fun _ => Ev.now _) (fun h' => absurd rfl h')
theorem IsCodeI_ev (ws : List ByteArray) (hn : ws.length ≤ 1099511627776) (hs : totS ws ≤ 1099511627776) : Ev (fun k => impl_IsCode.f k ws) (codeB ws) := by
 unfold impl_IsCode.f codeB
 by_cases h1 : 1 ≤ ws.length
 ·have c1 : ¬ (ws.length : Int) < 1 := by omega
  refine Ev.cond (fun h' => absurd h' c1) (fun _ => ?_)
  apply Ev.succ
  simp only [impl_IsCode.j0]
  by_cases h2 : ws.length ≤ 16
  ·rw [decide_eq_true (show 1 ≤ ws.length ∧ ws.length ≤ 16 from ⟨h1, h2⟩), Bool.true_and, decide_eq_false (show ¬ (ws.length : Int) > 16 by omega)]
   exact Ev.cond (fun h' => absurd h' (by decide)) (fun _ => IsCodeI_l0 ws (by omega) hs ws.length 0 (by omega))
  ·rw [decide_eq_false (show ¬ (1 ≤ ws.length ∧ ws.length ≤ 16) from fun h => h2 h.2), decide_eq_true (show (ws.length : Int) > 16 by omega)]
   exact Ev.cond (fun _ => Ev.now _) (fun h' => absurd rfl h')
 ·have c1 : (ws.length : Int) < 1 := by omega
  rw [decide_eq_false (show ¬ (1 ≤ ws.length ∧ ws.length ≤ 16) from fun h => h1 h.1)]
  refine Ev.cond (fun _ => ?_) (fun h' => absurd c1 h')
  apply Ev.succ
  simp only [impl_IsCode.j0]
  exact Ev.cond (fun _ => Ev.now _) (fun h' => absurd (by trivial) h')
theorem HasPrefix_eq (s p : ByteArray) : strings_HasPrefix.f s p = some (isPre p s) := by
 unfold strings_HasPrefix.f stringslite_HasPrefix.f isPre
 by_cases h : p.size ≤ s.size
 ·have c1 : (s.size : Int) ≥ (p.size : Int) := by omega
  have c2 : (0 : Int) ≤ (p.size : Int) := by omega
  rw [if_pos c1, if_pos c2, if_pos c1, decide_eq_true h, Bool.true_and]
  simp only [Int.toNat_natCast]; rfl
 ·have c1 : ¬ (s.size : Int) ≥ (p.size : Int) := by omega
  rw [if_neg c1, decide_eq_false h]; rfl
theorem IsPrefixI_l1 (ws : List ByteArray) (hn : ws.length ≤ 1000) (i : Nat) (hi : i < ws.length) {r : Bool} (hr : Ev (fun k => impl_IsPrefixCode.l0 k ws ws (ws.length : Int) ((i + 1 : Nat) : Int)) r) :
 ∀ d n, n + d = ws.length → Ev (fun k => impl_IsPrefixCode.l1 k ws (i : Int) (sn ws i) ws (ws.length : Int) (i : Int) ws (ws.length : Int) (n : Int)) (preR ws i n d && r) := by
 have w1 := w64_succ (show i < 9223372036854775807 by omega)
 intro d
 induction d with
 | zero =>
  intro n h
  have c1 : ¬ (n : Int) < (ws.length : Int) := by omega
  apply Ev.succ
  simp only [impl_IsPrefixCode.l1, w1]
  exact Ev.cond (fun h' => absurd h' c1) (fun _ => hr)
 | succ d ih =>
  intro n h
  have c1 : (n : Int) < (ws.length : Int) := by omega
  have c2 : (0 : Int) ≤ (n : Int) := by omega
  have h3 := ih (n + 1) (by omega)
  rw [preR_succ]
  apply Ev.succ
  simp only [impl_IsPrefixCode.l1, sr_nat, w64_succ (show n < 9223372036854775807 by omega), HasPrefix_eq, Option.bind_some]
  refine Ev.cond (fun _ => ?_) (fun h' => absurd c1 h')
  refine Ev.cond (fun _ => ?_) (fun h' => absurd c2 h')
  refine Ev.cond (fun _ => ?_) (fun h' => absurd c1 h')
  by_cases hk : i = n
  ·rw [decide_eq_true hk, Bool.true_or, Bool.true_and]
   exact Ev.cond (fun _ => h3) (fun h' => absurd (by rw [hk]) h')
  ·rw [decide_eq_false hk, Bool.false_or]
   refine Ev.cond (fun h' => absurd (by omega) hk) (fun _ => ?_)
   rcases isPre (sn ws i) (sn ws n) with _ | _
   ·exact Ev.cond (fun h' => absurd h' (by decide)) (fun _ => h3)
   ·exact Ev.cond (fun _ => Ev.now _) (fun h' => absurd rfl h')
theorem IsPrefixI_l0 (ws : List ByteArray) (hn : ws.length ≤ 1000) : ∀ d n, n + d = ws.length → Ev (fun k => impl_IsPrefixCode.l0 k ws ws (ws.length : Int) (n : Int)) (prefR ws n d) := by
 intro d
 induction d with
 | zero =>
  intro n h
  have c1 : ¬ (n : Int) < (ws.length : Int) := by omega
  apply Ev.succ
  simp only [impl_IsPrefixCode.l0]
  exact Ev.cond (fun h' => absurd h' c1) (fun _ => Ev.now _)
 | succ d ih =>
  intro n h
  have c1 : (n : Int) < (ws.length : Int) := by omega
  have c2 : (0 : Int) ≤ (n : Int) := by omega
  have h3 := IsPrefixI_l1 ws hn n (by omega) (ih (n + 1) (by omega)) ws.length 0 (by omega)
  rw [prefR_succ]
  apply Ev.succ
  simp only [impl_IsPrefixCode.l0, sr_nat]
  refine Ev.cond (fun _ => ?_) (fun h' => absurd c1 h')
  refine Ev.cond (fun _ => ?_) (fun h' => absurd c2 h')
  exact Ev.cond (fun _ => h3) (fun h' => absurd c1 h')
theorem kraftI_l0 (ws : List ByteArray) (hn : ws.length ≤ 1000) (hs : ∀ i, (sn ws i).size ≤ 12) : ∀ d n a, n + d = ws.length → Ev (fun k => impl_kraft.l0 k a ws (ws.length : Int) (n : Int)) (krF (ws.drop n) a) := by
 intro d
 induction d with
 | zero =>
  intro n a h
  have c1 : ¬ (n : Int) < (ws.length : Int) := by omega
  rw [List.drop_eq_nil_of_le (by omega)]
  apply Ev.succ
  simp only [impl_kraft.l0]
  exact Ev.cond (fun h' => absurd h' c1) (fun _ => Ev.now _)
 | succ d ih =>
  intro n a h
  have c1 : (n : Int) < (ws.length : Int) := by omega
  have c2 : (0 : Int) ≤ (n : Int) := by omega
  have hz := hs n
  have e : wrap64 (12 - ((sn ws n).size : Int)) = 12 - ((sn ws n).size : Int) := w64 (by omega) (by omega)
  have c3 : (0 : Int) ≤ 12 - ((sn ws n).size : Int) := by omega
  have h3 := ih (n + 1) (wrap64 (a + shl .i64 1 (12 - ((sn ws n).size : Int)))) (by omega)
  rw [drop_sn (show n < ws.length by omega)]
  unfold krF
  apply Ev.succ
  simp only [impl_kraft.l0, sr_nat, w64_succ (show n < 9223372036854775807 by omega), e]
  refine Ev.cond (fun _ => ?_) (fun h' => absurd c1 h')
  refine Ev.cond (fun _ => ?_) (fun h' => absurd c2 h')
  refine Ev.cond (fun _ => ?_) (fun h' => absurd c1 h')
  exact Ev.cond (fun _ => h3) (fun h' => absurd c3 h')
theorem IsCompleteI_ev (ws : List ByteArray) (hn : ws.length ≤ 1099511627776) (hs : totS ws ≤ 1099511627776) : Ev (fun k => impl_IsCompleteCode.f k ws) (codeB ws && complB ws) := by
 unfold impl_IsCompleteCode.f impl_IsPrefixCode.f impl_kraft.f complB
 rcases hc : codeB ws with _ | _
 ·have hp := IsCodeI_ev ws hn hs
  rw [hc] at hp
  refine Ev.bind (Ev.bind hp (Ev.cond (fun h' => absurd h' (by decide)) (fun _ => Ev.now false))) ?_
  exact Ev.cond (fun h' => absurd h' (by decide)) (fun _ => Ev.now _)
 ·have hp := IsCodeI_ev ws hn hs
  rw [hc] at hp
  obtain ⟨h1, h2⟩ := codeB_len hc
  refine Ev.bind (Ev.bind hp (Ev.cond (fun _ => IsPrefixI_l0 ws (by omega) ws.length 0 (by omega)) (fun h' => absurd rfl h'))) ?_
  rcases prefR ws 0 ws.length with _ | _
  ·exact Ev.cond (fun h' => absurd h' (by decide)) (fun _ => Ev.now _)
  refine Ev.cond (fun _ => ?_) (fun h' => absurd rfl h')
  refine Ev.bind (kraftI_l0 ws (by omega) (codeB_size hc) ws.length 0 0 (by omega)) (Ev.const ?_)
  rw [List.drop_zero, Bool.true_and, Bool.true_and]
  congr 1
theorem bsT_of {b : Nat} (hb : b < 2) : rdOf ByteArray.empty [(⟨#[48]⟩ : ByteArray), (⟨#[49]⟩ : ByteArray)] (b : Int) = bsT b := by
 have h : b = 0 ∨ b = 1 := by omega
 rcases h with rfl | rfl <;> rfl
theorem one_iff (l : List ByteArray) : ((l.length : Int) = 1 ∧ (rdOf ByteArray.empty l 0).toList = ([] : List UInt8)) ↔ l = [(⟨#[]⟩ : ByteArray)] := by
 constructor
 ·rintro ⟨h1, h2⟩
  obtain ⟨x, rfl⟩ : ∃ x, l = [x] := by
   cases l with
   | nil => simp at h1
   | cons x l =>
    cases l with
    | nil => exact ⟨x, rfl⟩
    | cons y l => rw [List.length_cons, List.length_cons] at h1; omega
  have h3 : x.toList = ([] : List UInt8) := h2
  rw [Lib.toList_data] at h3
  congr 1
  exact ByteArray.ext (Array.ext' h3)
 ·rintro rfl
  refine ⟨rfl, ?_⟩
  show (⟨#[]⟩ : ByteArray).toList = _
  rw [Lib.toList_data]
theorem SyI_l8 {ws R : List ByteArray} (h : Rd ws R) (hn : ws.length ≤ 1099511627776) (Q : List (List ByteArray × ByteArray)) (keys : List ByteArray) (m : Nat) (s : ByteArray) (b : Nat) {r : ByteArray × Bool}
 (hr : Ev (fun k => impl_SyncWord.l8 k ws Q keys (phi R m, s) (b : Int) (bsT b) ((phi R m).map fun x => rdB ws x (bsT b)) ((phi R m).length : Int)) r) :
 ∀ d i, i + d = (phi R m).length → Ev (fun k => impl_SyncWord.l8 k ws Q keys (phi R m, s) (b : Int) (bsT b) (((phi R m).take i).map fun x => rdB ws x (bsT b)) (i : Int)) r := by
 have hf := h.few
 have hL := phi_length R m
 intro d
 induction d with
 | zero =>
  intro i hi
  obtain rfl : i = (phi R m).length := by omega
  rw [List.take_length]
  exact hr
 | succ d ih =>
  intro i hi
  have hl : i < (phi R m).length := by omega
  have c1 : (i : Int) < ((phi R m).length : Int) := by omega
  have c2 : (0 : Int) ≤ (i : Int) := by omega
  have hm := phi_sub (sn_mem hl)
  have h1 := readI_ev ws hn (sn (phi R m) i) (bsT b) (by have := (h.bits _ hm).1; rw [bsT_size]; omega)
  have c3 : (((phi R m).take i).map fun x => rdB ws x (bsT b)).length < 8796093022208 := by rw [List.length_map, List.length_take]; omega
  have h3 := ih (i + 1) (by omega)
  rw [take_sn hl, List.map_append, List.map_singleton] at h3
  apply Ev.succ
  simp only [impl_SyncWord.l8, sr_nat, w64_succ (show i < 9223372036854775807 by omega)]
  refine Ev.cond (fun _ => ?_) (fun h' => absurd c1 h')
  refine Ev.cond (fun _ => ?_) (fun h' => absurd c2 h')
  refine Ev.bind h1 ?_
  exact Ev.cond (fun _ => h3) (fun h' => absurd c3 h')
theorem SyI_l1 (ws : List ByteArray) (i : Nat) (hi : i < 1099511627776) (x : ByteArray) (hx : x.size ≤ 1099511627776) {r : ByteArray × Bool} : ∀ d j (all : List ByteArray), j + d = x.size → all.length + d ≤ 1099511627776 →
 Ev (fun k => impl_SyncWord.l0 k ws (all ++ begs x j d) ((i + 1 : Nat) : Int)) r → Ev (fun k => impl_SyncWord.l1 k ws all (i : Int) x (j : Int)) r := by
 intro d
 induction d with
 | zero =>
  intro j all h ha hr
  have c1 : ¬ (j : Int) < (x.size : Int) := by omega
  have e : all ++ begs x j 0 = all := List.append_nil _
  rw [e] at hr
  apply Ev.succ
  simp only [impl_SyncWord.l1, w64_succ (show i < 9223372036854775807 by omega)]
  exact Ev.cond (fun h' => absurd h' c1) (fun _ => hr)
 | succ d ih =>
  intro j all h ha hr
  have c1 : (j : Int) < (x.size : Int) := by omega
  have c2 : (0 : Int) ≤ (j : Int) := by omega
  have c3 : (j : Int) ≤ (x.size : Int) := by omega
  have c4 : all.length < 8796093022208 := by omega
  rw [begs_succ] at hr
  have h3 := ih (j + 1) (all ++ [x.extract 0 j]) (by omega) (by rw [List.length_append, List.length_singleton]; omega) (by rw [List.append_assoc, List.singleton_append]; exact hr)
  apply Ev.succ
  simp only [impl_SyncWord.l1, Int.toNat_natCast, w64_succ (show j < 9223372036854775807 by omega)]
  refine Ev.cond (fun _ => ?_) (fun h' => absurd c1 h')
  refine Ev.cond (fun _ => ?_) (fun h' => absurd c2 h')
  refine Ev.cond (fun _ => ?_) (fun h' => absurd c3 h')
  exact Ev.cond (fun _ => h3) (fun h' => absurd c4 h')
theorem SyI_l0 (ws : List ByteArray) (hn : ws.length ≤ 1099511627776) (hs : totS ws ≤ 1099511627776) {r : ByteArray × Bool}
 (hr : Ev (fun k => impl_SyncWord.l0 k ws (allP ws) (ws.length : Int)) r) : ∀ d n (all : List ByteArray), n + d = ws.length → all.length + totS (ws.drop n) ≤ 1099511627776 → all ++ allP (ws.drop n) = allP ws → Ev (fun k => impl_SyncWord.l0 k ws all (n : Int)) r := by
 intro d
 induction d with
 | zero =>
  intro n all h ha e
  obtain rfl : n = ws.length := by omega
  rw [List.drop_length] at e
  have e2 : all = allP ws := by rw [← e]; exact (List.append_nil _).symm
  rw [e2]; exact hr
 | succ d ih =>
  intro n all h ha e
  have c1 : (n : Int) < (ws.length : Int) := by omega
  have c2 : (0 : Int) ≤ (n : Int) := by omega
  have hz := sn_size ws n
  rw [drop_sn (show n < ws.length by omega)] at ha e
  unfold totS at ha
  rw [show allP (sn ws n :: ws.drop (n + 1)) = begs (sn ws n) 0 (sn ws n).size ++ allP (ws.drop (n + 1)) from rfl] at e
  have h3 := ih (n + 1) (all ++ begs (sn ws n) 0 (sn ws n).size) (by omega) (by rw [List.length_append, begs_length]; omega) (by rw [List.append_assoc]; exact e)
  have h4 := SyI_l1 ws n (by omega) (sn ws n) (by omega) (sn ws n).size 0 all (by omega) (by omega) h3
  apply Ev.succ
  simp only [impl_SyncWord.l0, sr_nat]
  refine Ev.cond (fun _ => ?_) (fun h' => absurd c1 h')
  exact Ev.cond (fun _ => h4) (fun h' => absurd c2 h')
def runL (ws : List ByteArray) : ByteArray → List UInt8 → ByteArray
 | x, [] => x
 | x, c :: l => runL ws (rdB ws x (ofL [c])) l
theorem runL_app (ws : List ByteArray) : ∀ (l k : List UInt8) (x : ByteArray), runL ws x (l ++ k) = runL ws (runL ws x l) k
 | [], _, _ => rfl
 | c :: l, k, x => by
  show runL ws (rdB ws x (ofL [c])) (l ++ k) = _
  rw [runL_app ws l k]; rfl
theorem runL_snoc (ws : List ByteArray) (x : ByteArray) (s b : ByteArray) (c : UInt8) (hb : b = ofL [c]) : runL ws x (s ++ b).data.toList = rdB ws (runL ws x s.data.toList) b := by
 rw [ByteArray.data_append, Array.toList_append, runL_app, hb]
 rfl
structure SyI (ws R : List ByteArray) (q : List Nat) (F : List Int) (B : List ByteArray) : Prop where
 len : B.length = q.length
 flen : F.length = 2 ^ R.length
 few : R.length ≤ 15
 nd : q.Nodup
 pos : ∀ m ∈ q, 0 < m ∧ m < 2 ^ R.length
 zero : ∀ m, m < 2 ^ R.length → (F.getD m 0 ≠ 0 ↔ m ∈ q)
 back : ∀ j, j < q.length → Bk F (q.getD j 0) (sn B j) ∧ (sn B j).size ≤ j
 run : ∀ j, j < q.length → (∀ c ∈ (sn B j).data.toList, c = 48 ∨ c = 49) ∧ ∀ x ∈ R, runL ws x (sn B j).data.toList ∈ phi R (q.getD j 0)
def SyR (ws R : List ByteArray) (r : ByteArray × Bool) : Prop := r.2 = true → (1 ≤ r.1.size ∧ r.1.size ≤ 2 ^ R.length) ∧ (∀ c ∈ r.1.data.toList, c = 48 ∨ c = 49) ∧ ∀ x ∈ R, runL ws x r.1.data.toList = (⟨#[]⟩ : ByteArray)
theorem bsT_one (b : Nat) : ∃ c : UInt8, bsT b = ofL [c] ∧ (c = 48 ∨ c = 49) := by
 rcases bsT_or b with h | h
 ·exact ⟨48, h, .inl rfl⟩
 ·exact ⟨49, h, .inr rfl⟩
theorem bsT_app {s : ByteArray} (hs : ∀ c ∈ s.data.toList, c = 48 ∨ c = 49) (b : Nat) : ∀ c ∈ (s ++ bsT b).data.toList, c = 48 ∨ c = 49 := by
 obtain ⟨d, e, hd⟩ := bsT_one b
 intro c hc
 rw [ByteArray.data_append, Array.toList_append, List.mem_append, e, ofL_data, List.mem_singleton] at hc
 rcases hc with hc | rfl
 ·exact hs c hc
 ·exact hd
theorem run_step {ws R : List ByteArray} (h : Rd ws R) {m : Nat} {s x : ByteArray} (b : Nat) (hx : runL ws x s.data.toList ∈ phi R m) : runL ws x (s ++ bsT b).data.toList ∈ phi R (stp ws R b m) := by
 obtain ⟨c, hc, _⟩ := bsT_one b
 rw [runL_snoc ws x s (bsT b) c hc, h.stp_mem]
 exact ⟨_, hx, rfl⟩
theorem SyI.qlen {ws R : List ByteArray} {q : List Nat} {F : List Int} {B : List ByteArray} (h : SyI ws R q F B) : q.length ≤ 2 ^ R.length ∧ (2 : Nat) ^ R.length ≤ 32768 := by
 refine ⟨nodup_lt _ _ h.nd (fun m hm => (h.pos m hm).2), ?_⟩
 have := Nat.pow_le_pow_right (n := 2) (by decide) h.few
 have e : (2 : Nat) ^ 15 = 32768 := by decide
 omega
def Qof (R : List ByteArray) (q : List Nat) (B : List ByteArray) : List (List ByteArray × ByteArray) := List.zipWith (fun m s => (phi R m, s)) q B
theorem Qof_length {R : List ByteArray} {q : List Nat} {B : List ByteArray} (h : B.length = q.length) : (Qof R q B).length = q.length := by
 unfold Qof; rw [List.length_zipWith]; omega
theorem Qof_head {R : List ByteArray} {q : List Nat} {B : List ByteArray} (h : B.length = q.length) {at_ : Nat} (hat : at_ < q.length) (d : List ByteArray × ByteArray) : ((Qof R q B).drop at_).headD d = (phi R (q.getD at_ 0), sn B at_) := by
 have hl := Qof_length (R := R) h
 rw [List.drop_eq_getElem_cons (by omega)]
 show (Qof R q B)[at_]'_ = _
 unfold Qof
 rw [List.getElem_zipWith, sn_get (show at_ < B.length by omega), List.getD_eq_getElem?_getD, List.getElem?_eq_getElem hat]
 rfl
theorem Qof_app {R : List ByteArray} {q : List Nat} {B : List ByteArray} (h : B.length = q.length) (m : Nat) (s : ByteArray) : Qof R (q ++ [m]) (B ++ [s]) = Qof R q B ++ [(phi R m, s)] := by
 unfold Qof
 rw [List.zipWith_append (by omega)]
 rfl
theorem SyI.more {ws R : List ByteArray} (hR : Rd ws R) {q : List Nat} {F : List Int} {B : List ByteArray} (h : SyI ws R q F B) {at_ : Nat} (hat : at_ < q.length) {t b : Nat} (hb : b < 2) (h0 : 0 < t) (ht : t < 2 ^ R.length) (hq : t ∉ q) (hte : t = stp ws R b (q.getD at_ 0)) :
 SyI ws R (q ++ [t]) (F.set t ((2 * q.getD at_ 0 + b : Nat) : Int)) (B ++ [sn B at_ ++ bsT b]) := by
 have hF0 : F.getD t 0 = 0 := by
  rcases Int.decEq (F.getD t 0) 0 with h1 | h1
  ·exact absurd ((h.zero t ht).1 h1) hq
  ·exact h1
 have htF : t < F.length := by rw [h.flen]; exact ht
 have hm : q.getD at_ 0 ∈ q := by rw [List.getD_eq_getElem?_getD, List.getElem?_eq_getElem hat]; exact List.getElem_mem hat
 have hmp := (h.pos _ hm).1
 refine ⟨?_, ?_, h.few, ?_, ?_, ?_, ?_, ?_⟩
 ·rw [List.length_append, List.length_append, h.len]; rfl
 ·rw [List.length_set, h.flen]
 ·refine List.pairwise_append.2 ⟨h.nd, List.pairwise_singleton _ _, fun a ha b hb => ?_⟩
  rw [List.mem_singleton] at hb
  subst hb
  exact fun e => hq (e ▸ ha)
 ·intro m hm2
  rw [List.mem_append, List.mem_singleton] at hm2
  rcases hm2 with hm2 | rfl
  ·exact h.pos m hm2
  ·exact ⟨h0, ht⟩
 ·intro m hm2
  rw [getD_set htF, List.mem_append, List.mem_singleton]
  by_cases e : t = m
  ·rw [if_pos e]
   exact ⟨fun _ => .inr e.symm, fun _ => by omega⟩
  ·rw [if_neg e, h.zero m hm2]
   exact ⟨fun h1 => .inl h1, fun h1 => h1.elim id (fun h2 => absurd h2.symm e)⟩
 ·intro j hj
  rw [List.length_append, List.length_singleton] at hj
  by_cases e : j < q.length
  ·have e1 : (q ++ [t]).getD j 0 = q.getD j 0 := by
    rw [List.getD_eq_getElem?_getD, List.getD_eq_getElem?_getD, List.getElem?_append_left e]
   have e2 : sn (B ++ [sn B at_ ++ bsT b]) j = sn B j := by
    have hl := h.len
    unfold sn
    simp only [List.getD_eq_getElem?_getD]
    rw [List.getElem?_append_left (by omega)]
   rw [e1, e2]
   exact ⟨(h.back j e).1.kept htF hF0 _, (h.back j e).2⟩
  ·obtain rfl : j = q.length := by omega
   have hl := h.len
   have e1 : (q ++ [t]).getD q.length 0 = t := by
    rw [List.getD_eq_getElem?_getD, List.getElem?_append_right (Nat.le_refl _), Nat.sub_self]; rfl
   have e2 : sn (B ++ [sn B at_ ++ bsT b]) q.length = sn B at_ ++ bsT b := by
    unfold sn
    rw [List.getD_eq_getElem?_getD, List.getElem?_append_right (by omega), hl, Nat.sub_self]; rfl
   rw [e1, e2]
   refine ⟨.step (m' := q.getD at_ 0) ?_ hb hmp ((h.back at_ hat).1.kept htF hF0 _), ?_⟩
   ·rw [getD_set htF, if_pos rfl]
   ·have := (h.back at_ hat).2
    rw [ByteArray.size_append, bsT_size]; omega
 ·intro j hj
  rw [List.length_append, List.length_singleton] at hj
  have hl := h.len
  by_cases e : j < q.length
  ·have e1 : (q ++ [t]).getD j 0 = q.getD j 0 := by
    rw [List.getD_eq_getElem?_getD, List.getD_eq_getElem?_getD, List.getElem?_append_left e]
   have e2 : sn (B ++ [sn B at_ ++ bsT b]) j = sn B j := by
    unfold sn
    simp only [List.getD_eq_getElem?_getD]
    rw [List.getElem?_append_left (by omega)]
   rw [e1, e2]
   exact h.run j e
  ·obtain rfl : j = q.length := by omega
   have e1 : (q ++ [t]).getD q.length 0 = t := by
    rw [List.getD_eq_getElem?_getD, List.getElem?_append_right (Nat.le_refl _), Nat.sub_self]; rfl
   have e2 : sn (B ++ [sn B at_ ++ bsT b]) q.length = sn B at_ ++ bsT b := by
    unfold sn
    rw [List.getD_eq_getElem?_getD, List.getElem?_append_right (by omega), hl, Nat.sub_self]; rfl
   rw [e1, e2]
   obtain ⟨r1, r2⟩ := h.run at_ hat
   refine ⟨bsT_app r1 b, fun x hx => ?_⟩
   rw [hte]
   exact run_step hR b (r2 x hx)
theorem join_eq (l : List ByteArray) (h1 : l.length ≤ 1000) (h2 : (joinT l (⟨#[44]⟩ : ByteArray)).size ≤ 1000) : strings_Join.f l (⟨#[44]⟩ : ByteArray) = some (joinT l (⟨#[44]⟩ : ByteArray)) := by
 unfold strings_Join.f
 rw [if_pos ⟨by omega, by omega⟩]
theorem sy_num {m b : Nat} (hm : m ≤ 32768) (hb : b < 2) : wrap64 (wrap64 (2 * (m : Int)) + (b : Int)) = ((2 * m + b : Nat) : Int) := by
 rw [w64 (x := 2 * (m : Int)) (by omega) (by omega), w64 (by omega) (by omega)]; omega
theorem sy_round {ws R : List ByteArray} (h : Rd ws R) (hn : ws.length ≤ 1099511627776) {at_ set_ : Nat} {s : ByteArray} {b : Nat} (hb : b < 2) {q : List Nat} {F : List Int} {B : List ByteArray} (I : SyI ws R q F B) (hat : at_ < q.length)
 (hset : q.getD at_ 0 = set_) (hs : sn B at_ = s)
 (Hn : ∀ q' F' B', SyI ws R q' F' B' → at_ < q'.length → q'.getD at_ 0 = set_ → sn B' at_ = s → ∃ r, Ev (fun k => spec_SyncWord.l3 k (R.length : Int) (nxT ws R) ((goalN R : Nat) : Int) F' (castL q') (at_ : Int) (set_ : Int) ((b + 1 : Nat) : Int)) r ∧ Ev (fun k => impl_SyncWord.l6 k ws ((Qof R q' B').drop at_) (q'.map (keyN R)) (phi R set_, s) ((b + 1 : Nat) : Int)) r ∧ SyR ws R r) :
 ∃ r, Ev (fun k => spec_SyncWord.l3 k (R.length : Int) (nxT ws R) ((goalN R : Nat) : Int) F (castL q) (at_ : Int) (set_ : Int) (b : Int)) r ∧ Ev (fun k => impl_SyncWord.l6 k ws ((Qof R q B).drop at_) (q.map (keyN R)) (phi R set_, s) (b : Int)) r ∧ SyR ws R r := by
 obtain ⟨hq1, hq2⟩ := I.qlen
 have hrun := I.run at_ hat
 rw [hset, hs] at hrun
 have hrs : ∀ x ∈ R, runL ws x (s ++ bsT b).data.toList ∈ phi R (stp ws R b set_) := fun x hx => run_step h b (hrun.2 x hx)
 have hf := h.few
 have hmem : set_ ∈ q := by rw [← hset, List.getD_eq_getElem?_getD, List.getElem?_eq_getElem hat]; exact List.getElem_mem hat
 obtain ⟨hm0, hm⟩ := I.pos _ hmem
 have hbk := I.back at_ hat
 rw [hset, hs] at hbk
 have ht := h.stp_lt b set_
 have ht0 := h.stp_pos b hm0 hm
 have hcs := h.stp_cs b set_
 have hgi := h.goal_iff ht
 have hks := h.key_size (stp ws R b set_)
 have hpl := phi_length R (stp ws R b set_)
 have hhas := h.has_iff I.pos ht0 ht
 have hz := I.zero _ ht
 have hflen := I.flen
 have hmore := fun hnq => I.more h hat (t := stp ws R b set_) (b := b) hb ht0 ht hnq (by rw [hset])
 rw [hset, hs] at hmore
 have hb2 : (b : Int) < 2 := by omega
 have hb0 : (0 : Int) ≤ (b : Int) := by omega
 have hw1 := w64_succ (show b < 9223372036854775807 by omega)
 have S4 : ∀ r, Ev (fun k => spec_SyncWord.l4 k (R.length : Int) (nxT ws R) ((goalN R : Nat) : Int) F (castL q) (at_ : Int) (set_ : Int) (b : Int) ((stp ws R b set_ : Nat) : Int) (R.length : Int)) r → Ev (fun k => spec_SyncWord.l3 k (R.length : Int) (nxT ws R) ((goalN R : Nat) : Int) F (castL q) (at_ : Int) (set_ : Int) (b : Int)) r := by
  intro r hr
  have h1 := SyS_l4 h b hb ((goalN R : Nat) : Int) F (castL q) (at_ : Int) set_ hm hr R.length 0 (by omega)
  apply Ev.succ
  simp only [spec_SyncWord.l3]
  exact Ev.cond (fun _ => h1) (fun h' => absurd hb2 h')
 have S8 : ∀ r, Ev (fun k => impl_SyncWord.l8 k ws ((Qof R q B).drop at_) (q.map (keyN R)) (phi R set_, s) (b : Int) (bsT b) ((phi R set_).map fun x => rdB ws x (bsT b)) ((phi R set_).length : Int)) r → Ev (fun k => impl_SyncWord.l6 k ws ((Qof R q B).drop at_) (q.map (keyN R)) (phi R set_, s) (b : Int)) r := by
  intro r hr
  have h1 := SyI_l8 h hn ((Qof R q B).drop at_) (q.map (keyN R)) set_ s b hr (phi R set_).length 0 (by omega)
  apply Ev.succ
  simp only [impl_SyncWord.l6, bsT_of hb]
  refine Ev.cond (fun _ => ?_) (fun h' => absurd hb2 h')
  exact Ev.cond (fun _ => h1) (fun h' => absurd hb0 h')
 have hlm : ((phi R set_).map fun x => rdB ws x (bsT b)).length ≤ 1000 := by have := phi_length R set_; rw [List.length_map]; omega
 have e1 := sort_eq ((phi R set_).map fun x => rdB ws x (bsT b)) (by omega)
 have e2 := compact_eq (sortT ((phi R set_).map fun x => rdB ws x (bsT b))) (by rw [sortT_length]; omega)
 have e3 : compactT (sortT ((phi R set_).map fun x => rdB ws x (bsT b))) = phi R (stp ws R b set_) := hcs
 rw [e3] at e2
 have e4 := join_eq (phi R (stp ws R b set_)) (by omega) (by unfold keyN at hks; omega)
 have e5 : joinT (phi R (stp ws R b set_)) (⟨#[44]⟩ : ByteArray) = keyN R (stp ws R b set_) := rfl
 rw [e5] at e4
 have c1 : ¬ (R.length : Int) < (R.length : Int) := by omega
 have c2 : ¬ ((phi R set_).length : Int) < ((phi R set_).length : Int) := by omega
 have hse : s.size ≤ 32768 := by omega
 generalize hT : stp ws R b set_ = T at *
 by_cases hg : T = goalN R
 ·
  refine ⟨(s ++ bsT b, true), S4 _ ?_, S8 _ ?_, fun _ => ⟨⟨?_, ?_⟩, bsT_app hrun.1 b, fun x hx => ?_⟩⟩
  ·have hbf := back_f (F := F) (by rw [hflen]; omega) hbk.1 (by omega)
   have cg : ((T : Nat) : Int) = ((goalN R : Nat) : Int) := by rw [hg]
   have cs_ : s.size + (bsT b).size ≤ 9223372036854775807 := by rw [bsT_size]; omega
   apply Ev.succ
   simp only [spec_SyncWord.l4, Option.bind_some, bsT_str hb]
   refine Ev.cond (fun h' => absurd h' c1) (fun _ => ?_)
   refine Ev.cond (fun _ => ?_) (fun h' => absurd cg h')
   refine Ev.bind hbf ?_
   exact Ev.cond (fun _ => Ev.now _) (fun h' => absurd cs_ h')
  ·have c3 := (one_iff (phi R T)).2 (hgi.1 hg)
   have c4 : (phi R set_, s).2.size + (bsT b).size ≤ 9223372036854775807 := by show s.size + _ ≤ _; rw [bsT_size]; omega
   apply Ev.succ
   simp only [impl_SyncWord.l8, e1, e2, Option.bind_some]
   refine Ev.cond (fun h' => absurd h' c2) (fun _ => ?_)
   refine Ev.cond (fun _ => ?_) (fun h' => absurd c3 h')
   exact Ev.cond (fun _ => Ev.now _) (fun h' => absurd c4 h')
  ·show 1 ≤ (s ++ bsT b).size
   rw [ByteArray.size_append, bsT_size]; omega
  ·show (s ++ bsT b).size ≤ _
   rw [ByteArray.size_append, bsT_size]; omega
  ·have h1 := hrs x hx
   rw [hgi.1 hg, List.mem_singleton] at h1
   exact h1
 ·have cg : ¬ ((T : Nat) : Int) = ((goalN R : Nat) : Int) := fun h' => hg (by omega)
  have c3 : ¬ (((phi R T).length : Int) = 1 ∧ (rdOf ByteArray.empty (phi R T) 0).toList = ([] : List UInt8)) := fun h' => hg (hgi.2 ((one_iff _).1 h'))
  have c4 : (0 : Int) ≤ ((T : Nat) : Int) := by omega
  have c5 : ((T : Nat) : Int) < (F.length : Int) := by rw [hflen]; omega
  have c6 : (keyN R T).size ≤ 1000000 ∧ (q.map (keyN R)).length < 1000000 := ⟨by omega, by rw [List.length_map]; omega⟩
  have er : rd F ((T : Nat) : Int) = F.getD T 0 := rd_nat F T
  by_cases hin : T ∈ q
  ·obtain ⟨r, hr1, hr2, hr3⟩ := Hn q F B I hat hset hs
   have c7 : ¬ F.getD T 0 = 0 := hz.2 hin
   have c8 : hasT (q.map (keyN R)) (keyN R T) = true := by rw [hhas]; exact decide_eq_true hin
   refine ⟨r, S4 _ ?_, S8 _ ?_, hr3⟩
   ·apply Ev.succ
    simp only [spec_SyncWord.l4, er, hw1]
    refine Ev.cond (fun h' => absurd h' c1) (fun _ => ?_)
    refine Ev.cond (fun h' => absurd h' cg) (fun _ => ?_)
    refine Ev.cond (fun _ => ?_) (fun h' => absurd c4 h')
    refine Ev.cond (fun _ => ?_) (fun h' => absurd c5 h')
    exact Ev.cond (fun h' => absurd h' c7) (fun _ => hr1)
   ·apply Ev.succ
    simp only [impl_SyncWord.l8, e1, e2, e4, Option.bind_some, hw1]
    refine Ev.cond (fun h' => absurd h' c2) (fun _ => ?_)
    refine Ev.cond (fun h' => absurd h' c3) (fun _ => ?_)
    refine Ev.cond (fun _ => ?_) (fun h' => absurd c6 h')
    exact Ev.cond (fun _ => hr2) (fun h' => absurd c8 h')
  ·have hI2 := hmore hin
   obtain ⟨r, hr1, hr2, hr3⟩ := Hn _ _ _ hI2 (by rw [List.length_append]; omega) (by rw [List.getD_eq_getElem?_getD, List.getElem?_append_left hat, ← List.getD_eq_getElem?_getD]; exact hset) (by
    have hl := I.len
    rw [← hs]
    unfold sn
    simp only [List.getD_eq_getElem?_getD]
    rw [List.getElem?_append_left (by omega)])
   have c7 : F.getD T 0 = 0 := by
    rcases Int.decEq (F.getD T 0) 0 with h1 | h1
    ·exact absurd (hz.1 h1) hin
    ·exact h1
   have c8 : ¬ hasT (q.map (keyN R)) (keyN R T) = true := by rw [hhas]; exact fun h' => hin (of_decide_eq_true h')
   have hQl := Qof_length (R := R) I.len
   have c9 : (phi R set_, s).2.size + (bsT b).size ≤ 9223372036854775807 ∧ ((Qof R q B).drop at_).length < 1000000 := ⟨by show s.size + _ ≤ _; rw [bsT_size]; omega, by rw [List.length_drop]; omega⟩
   have c10 : (castL q).length < 17592186044416 := by rw [castL_length]; omega
   have ev := sy_num (Nat.le_trans (Nat.le_of_lt hm) hq2) hb
   have eq1 : castL q ++ [((T : Nat) : Int)] = castL (q ++ [T]) := by unfold castL; rw [List.map_append]; rfl
   have eq2 : (Qof R q B).drop at_ ++ [(phi R T, s ++ bsT b)] = (Qof R (q ++ [T]) (B ++ [s ++ bsT b])).drop at_ := by
    rw [Qof_app I.len, List.drop_append_of_le_length (by omega)]
   have eq3 : q.map (keyN R) ++ [keyN R T] = (q ++ [T]).map (keyN R) := by rw [List.map_append]; rfl
   refine ⟨r, S4 _ ?_, S8 _ ?_, hr3⟩
   ·apply Ev.succ
    simp only [spec_SyncWord.l4, er, hw1, ev, eq1, Int.toNat_natCast]
    refine Ev.cond (fun h' => absurd h' c1) (fun _ => ?_)
    refine Ev.cond (fun h' => absurd h' cg) (fun _ => ?_)
    refine Ev.cond (fun _ => ?_) (fun h' => absurd c4 h')
    refine Ev.cond (fun _ => ?_) (fun h' => absurd c5 h')
    refine Ev.cond (fun _ => ?_) (fun h' => absurd c7 h')
    exact Ev.cond (fun _ => hr1) (fun h' => absurd c10 h')
   ·apply Ev.succ
    simp only [impl_SyncWord.l8, e1, e2, e4, Option.bind_some, hw1, eq2, eq3]
    refine Ev.cond (fun h' => absurd h' c2) (fun _ => ?_)
    refine Ev.cond (fun h' => absurd h' c3) (fun _ => ?_)
    refine Ev.cond (fun _ => ?_) (fun h' => absurd c6 h')
    refine Ev.cond (fun h' => absurd h' c8) (fun _ => ?_)
    exact Ev.cond (fun _ => hr2) (fun h' => absurd c9 h')
theorem sy_main {ws R : List ByteArray} (h : Rd ws R) (hn : ws.length ≤ 1099511627776) : ∀ (d at_ : Nat) (q : List Nat) (F : List Int) (B : List ByteArray), SyI ws R q F B → at_ ≤ q.length → 2 ^ R.length ≤ at_ + d →
 ∃ r, Ev (fun k => spec_SyncWord.l2 k (R.length : Int) (nxT ws R) ((goalN R : Nat) : Int) F (castL q) (at_ : Int)) r ∧ Ev (fun k => impl_SyncWord.l4 k ws ((Qof R q B).drop at_) (q.map (keyN R))) r ∧ SyR ws R r := by
 intro d
 induction d with
 | zero =>
  intro at_ q F B I hat hd
  obtain ⟨hq1, hq2⟩ := I.qlen
  obtain rfl : at_ = q.length := by omega
  have c1 : ¬ ((q.length : Nat) : Int) < ((castL q).length : Int) := by rw [castL_length]; omega
  have hQl := Qof_length (R := R) I.len
  have c2 : ¬ (((Qof R q B).drop q.length).length : Int) > 0 := by rw [List.length_drop]; omega
  refine ⟨(⟨#[]⟩, false), ?_, ?_, fun h' => absurd h' (by decide)⟩
  ·apply Ev.succ
   simp only [spec_SyncWord.l2]
   exact Ev.cond (fun h' => absurd h' c1) (fun _ => Ev.now _)
  ·apply Ev.succ
   simp only [impl_SyncWord.l4]
   exact Ev.cond (fun h' => absurd h' c2) (fun _ => Ev.now _)
 | succ d ih =>
  intro at_ q F B I hat hd
  obtain ⟨hq1, hq2⟩ := I.qlen
  have hQl := Qof_length (R := R) I.len
  by_cases hlt : at_ < q.length
  ·have c1 : (at_ : Int) < ((castL q).length : Int) := by rw [castL_length]; omega
   have c2 : (((Qof R q B).drop at_).length : Int) > 0 := by rw [List.length_drop]; omega
   have c3 : (0 : Int) ≤ (at_ : Int) := by omega
   have e1 : rd (castL q) (at_ : Int) = ((q.getD at_ 0 : Nat) : Int) := by
    rw [rd_castL hlt, List.getD_eq_getElem?_getD, List.getElem?_eq_getElem hlt]; rfl
   have e2 := Qof_head (R := R) I.len hlt ([], (⟨#[]⟩ : ByteArray))
   have H2 : ∀ q' F' B', SyI ws R q' F' B' → at_ < q'.length → q'.getD at_ 0 = q.getD at_ 0 → sn B' at_ = sn B at_ → ∃ r, Ev (fun k => spec_SyncWord.l3 k (R.length : Int) (nxT ws R) ((goalN R : Nat) : Int) F' (castL q') (at_ : Int) ((q.getD at_ 0 : Nat) : Int) ((1 + 1 : Nat) : Int)) r ∧ Ev (fun k => impl_SyncWord.l6 k ws ((Qof R q' B').drop at_) (q'.map (keyN R)) (phi R (q.getD at_ 0), sn B at_) ((1 + 1 : Nat) : Int)) r ∧ SyR ws R r := by
    intro q' F' B' I' h1 _ _
    obtain ⟨r, hr1, hr2, hr3⟩ := ih (at_ + 1) q' F' B' I' h1 (by omega)
    refine ⟨r, ?_, ?_, hr3⟩
    ·apply Ev.succ
     simp only [spec_SyncWord.l3, w64_succ (show at_ < 9223372036854775807 by omega)]
     exact Ev.cond (fun h' => absurd h' (by decide)) (fun _ => hr1)
    ·apply Ev.succ
     simp only [impl_SyncWord.l6, List.drop_drop]
     exact Ev.cond (fun h' => absurd h' (by decide)) (fun _ => hr2)
   have H1 := fun q' F' B' I' h1 h2 h3 => sy_round h hn (at_ := at_) (set_ := q.getD at_ 0) (s := sn B at_) (b := 1) (by decide) (q := q') (F := F') (B := B') I' h1 h2 h3 H2
   obtain ⟨r, hr1, hr2, hr3⟩ := sy_round h hn (at_ := at_) (set_ := q.getD at_ 0) (s := sn B at_) (b := 0) (by decide) I hlt rfl rfl H1
   refine ⟨r, ?_, ?_, hr3⟩
   ·apply Ev.succ
    simp only [spec_SyncWord.l2, e1]
    refine Ev.cond (fun _ => ?_) (fun h' => absurd c1 h')
    exact Ev.cond (fun _ => hr1) (fun h' => absurd c3 h')
   ·apply Ev.succ
    simp only [impl_SyncWord.l4, e2]
    exact Ev.cond (fun _ => hr2) (fun h' => absurd c2 h')
  ·obtain rfl : at_ = q.length := by omega
   have c1 : ¬ ((q.length : Nat) : Int) < ((castL q).length : Int) := by rw [castL_length]; omega
   have c2 : ¬ (((Qof R q B).drop q.length).length : Int) > 0 := by rw [List.length_drop]; omega
   refine ⟨(⟨#[]⟩, false), ?_, ?_, fun h' => absurd h' (by decide)⟩
   ·apply Ev.succ
    simp only [spec_SyncWord.l2]
    exact Ev.cond (fun h' => absurd h' c1) (fun _ => Ev.now _)
   ·apply Ev.succ
    simp only [impl_SyncWord.l4]
    exact Ev.cond (fun h' => absurd h' c2) (fun _ => Ev.now _)
theorem sy_start {ws R : List ByteArray} (h : Rd ws R) : SyI ws R [2 ^ R.length - 1] ((List.replicate (2 ^ R.length) (0 : Int)).set (2 ^ R.length - 1) (-1)) [⟨#[]⟩] := by
 have hp := Nat.two_pow_pos R.length
 have h1 : 1 ≤ R.length := by
  cases hR : R with
  | nil => have := h.nil; rw [hR] at this; simp at this
  | cons x r => rw [List.length_cons]; omega
 have h2 : (2 : Nat) ^ 1 ≤ 2 ^ R.length := Nat.pow_le_pow_right (by decide) h1
 have h3 : (2 : Nat) ^ 1 = 2 := by decide
 have hl : 2 ^ R.length - 1 < (List.replicate (2 ^ R.length) (0 : Int)).length := by rw [List.length_replicate]; omega
 have e : ∀ m, (List.replicate (2 ^ R.length) (0 : Int)).getD m 0 = 0 := fun m => by
  rw [List.getD_eq_getElem?_getD, List.getElem?_replicate]
  by_cases hm : m < 2 ^ R.length
  ·rw [if_pos hm]; rfl
  ·rw [if_neg hm]; rfl
 refine ⟨rfl, by rw [List.length_set, List.length_replicate], h.few, List.pairwise_singleton _ _, ?_, ?_, ?_, ?_⟩
 ·intro m hm
  rw [List.mem_singleton] at hm
  omega
 ·intro m hm
  rw [getD_set hl, List.mem_singleton]
  by_cases e2 : 2 ^ R.length - 1 = m
  ·rw [if_pos e2]; exact ⟨fun _ => e2.symm, fun _ => by decide⟩
  ·rw [if_neg e2, e]; exact ⟨fun h' => absurd rfl h', fun h' => absurd h'.symm e2⟩
 ·intro j hj
  rw [List.length_singleton] at hj
  obtain rfl : j = 0 := by omega
  refine ⟨.root ?_, Nat.le_refl _⟩
  show List.getD _ (2 ^ R.length - 1) 0 = -1
  rw [getD_set hl, if_pos rfl]
 ·intro j hj
  rw [List.length_singleton] at hj
  obtain rfl : j = 0 := by omega
  refine ⟨fun c hc => absurd hc (by show ¬ c ∈ ([] : List UInt8); simp), fun x hx => ?_⟩
  show x ∈ phi R (2 ^ R.length - 1)
  rw [phi_mem]
  obtain ⟨h5, _, h6⟩ := pl_at hx
  exact ⟨_, h5, by rw [Nat.testBit_two_pow_sub_one, decide_eq_true_iff]; exact h5, h6⟩
theorem Sync_both (ws : List ByteArray) (hn : ws.length ≤ 1099511627776) (hs : totS ws ≤ 1099511627776) : ∃ r, Ev (fun k => spec_SyncWord.f k ws) r ∧ Ev (fun k => impl_SyncWord.f k ws) r ∧ SyR ws (rdrs ws) r := by
 have noS : Ev (fun k => spec_SyncWord.j0 k ws true) ((⟨#[]⟩ : ByteArray), false) := by
  apply Ev.succ
  simp only [spec_SyncWord.j0]
  exact Ev.cond (fun _ => Ev.now _) (fun h' => absurd (by trivial) h')
 have i1 := l05Is_ev ws hn hs
 have j1 := IsCompleteI_ev ws hn hs
 unfold spec_SyncWord.f impl_SyncWord.f
 rcases hc : codeB ws with _ | _
 ·rw [hc] at i1 j1
  rw [Bool.false_and] at j1
  exact ⟨((⟨#[]⟩ : ByteArray), false), Ev.bind i1 (Ev.cond (fun h' => absurd h' (by decide)) (fun _ => noS)), Ev.bind j1 (Ev.cond (fun h' => absurd h' (by decide)) (fun _ => Ev.now _)), fun h' => absurd h' (by decide)⟩
 rw [hc] at i1 j1
 rw [Bool.true_and] at j1
 have i2 := l05Complete_ev ws hc hs
 obtain ⟨hl1, hl2⟩ := codeB_len hc
 by_cases h2 : ¬ 2 ≤ ws.length
 ·have c1 : (ws.length : Int) < 2 := by omega
  refine ⟨((⟨#[]⟩ : ByteArray), false), Ev.bind i1 (Ev.cond (fun _ => Ev.cond (fun _ => noS) (fun h' => absurd c1 h')) (fun h' => absurd rfl h')), Ev.bind j1 (Ev.cond (fun _ => Ev.cond (fun _ => Ev.now _) (fun h' => absurd c1 h')) (fun _ => Ev.now _)), fun h' => absurd h' (by decide)⟩
 have c1 : ¬ (ws.length : Int) < 2 := by omega
 rcases hk : complB ws with _ | _
 ·rw [hk] at i2 j1
  exact ⟨((⟨#[]⟩ : ByteArray), false), Ev.bind i1 (Ev.cond (fun _ => Ev.cond (fun h' => absurd h' c1) (fun _ => Ev.bind i2 noS)) (fun h' => absurd rfl h')), Ev.bind j1 (Ev.cond (fun h' => absurd h' (by decide)) (fun _ => Ev.now _)), fun h' => absurd h' (by decide)⟩
 rw [hk] at i2 j1
 have hR := rd_of hc hk
 have hst := sy_start hR
 obtain ⟨hq1, hq2⟩ := hst.qlen
 have hf := hR.few
 have hp := Nat.two_pow_pos (rdrs ws).length
 have hbg := pl_at hR.nil
 obtain ⟨r, hr1, hr2, hr3⟩ := sy_main hR hn (2 ^ (rdrs ws).length) 0 _ _ _ hst (Nat.zero_le _) (by omega)
 refine ⟨r, Ev.bind i1 (Ev.cond (fun _ => Ev.cond (fun h' => absurd h' c1) (fun _ => Ev.bind i2 ?_)) (fun h' => absurd rfl h')), Ev.bind j1 (Ev.cond (fun _ => Ev.cond (fun h' => absurd h' c1) (fun _ => ?_)) (fun h' => absurd rfl h')), hr3⟩
 ·
  have i3 := l05Readers_ev ws hn hs
  have i4 := l03Index_ev (rdrs ws) (⟨#[]⟩ : ByteArray) (by omega)
  rw [hbg.2.1] at i4
  have c2 : (2 : Int) ≤ 11728124029610 := by decide
  have e1 := u64_nat (show (rdrs ws).length < 2 ^ 63 by omega)
  have e2 := u64_nat (show pl (rdrs ws) (⟨#[]⟩ : ByteArray) < 2 ^ 63 by omega)
  have e3 := shl_one (show (rdrs ws).length ≤ 61 by omega)
  have e4 := shl_one (show pl (rdrs ws) (⟨#[]⟩ : ByteArray) ≤ 61 by omega)
  have e5 : wrap64 (((2 ^ (rdrs ws).length : Nat) : Int) - 1) = ((2 ^ (rdrs ws).length - 1 : Nat) : Int) := by rw [w64 (by omega) (by omega)]; omega
  have c3 : (0 : Int) ≤ ((pl (rdrs ws) (⟨#[]⟩ : ByteArray) : Nat) : Int) := by omega
  have c4 : (0 : Int) ≤ ((rdrs ws).length : Int) := by omega
  have c5 : (0 : Int) ≤ ((2 ^ (rdrs ws).length : Nat) : Int) := by omega
  have c6 : 2 ^ (rdrs ws).length ≤ 35184372088832 := by omega
  have c7 : (0 : Int) ≤ ((2 ^ (rdrs ws).length - 1 : Nat) : Int) := by omega
  have c8 : ((2 ^ (rdrs ws).length - 1 : Nat) : Int) < ((List.replicate (2 ^ (rdrs ws).length) (0 : Int)).length : Int) := by rw [List.length_replicate]; omega
  have i5 : Ev (fun k => spec_SyncWord.l0 k ws (rdrs ws) ((rdrs ws).length : Int) (nxT ws (rdrs ws)) 2) r := by
   apply Ev.succ
   simp only [spec_SyncWord.l0]
   refine Ev.cond (fun h' => absurd h' (by decide)) (fun _ => Ev.bind i4 ?_)
   simp only [e1, e2, e3, e4, e5, Int.toNat_natCast, Option.bind_some]
   refine Ev.cond (fun _ => ?_) (fun h' => absurd c3 h')
   refine Ev.cond (fun _ => ?_) (fun h' => absurd c4 h')
   refine Ev.cond (fun _ => ?_) (fun h' => absurd c5 h')
   refine Ev.cond (fun _ => ?_) (fun h' => absurd c6 h')
   refine Ev.cond (fun _ => ?_) (fun h' => absurd c7 h')
   exact Ev.cond (fun _ => hr1) (fun h' => absurd c8 h')
  have i6 := SyS_l0 hR hn i5
  apply Ev.succ
  simp only [spec_SyncWord.j0]
  refine Ev.cond (fun h' => absurd h' (by decide)) (fun _ => Ev.bind i3 ?_)
  exact Ev.cond (fun _ => i6) (fun h' => absurd (by decide) h')
 ·
  have e1 := sort_eq (allP ws) (by rw [allP_length]; omega)
  have e2 := compact_eq (sortT (allP ws)) (by rw [sortT_length, allP_length]; omega)
  have e3 : compactT (sortT (allP ws)) = phi (rdrs ws) (2 ^ (rdrs ws).length - 1) := all_phi
  rw [e3] at e2
  have hks := hR.key_size (2 ^ (rdrs ws).length - 1)
  have hpl := phi_length (rdrs ws) (2 ^ (rdrs ws).length - 1)
  have e4 := join_eq (phi (rdrs ws) (2 ^ (rdrs ws).length - 1)) (by omega) (by unfold keyN at hks; omega)
  have e5 : joinT (phi (rdrs ws) (2 ^ (rdrs ws).length - 1)) (⟨#[44]⟩ : ByteArray) = keyN (rdrs ws) (2 ^ (rdrs ws).length - 1) := rfl
  rw [e5] at e4
  have c2 : (keyN (rdrs ws) (2 ^ (rdrs ws).length - 1)).size ≤ 1000000 := by omega
  have c3 : ¬ ((ws.length : Nat) : Int) < (ws.length : Int) := by omega
  have j2 : Ev (fun k => impl_SyncWord.l0 k ws (allP ws) (ws.length : Int)) r := by
   apply Ev.succ
   simp only [impl_SyncWord.l0, e1, e2, e4, Option.bind_some]
   refine Ev.cond (fun h' => absurd h' c3) (fun _ => ?_)
   exact Ev.cond (fun _ => hr2) (fun h' => absurd c2 h')
  exact SyI_l0 ws hn hs j2 ws.length 0 [] (by omega) (by rw [List.drop_zero]; simpa using hs) rfl
def bitU (c : UInt8) : Prop := c = 48 ∨ c = 49
def xorB : List UInt8 → List UInt8 → List UInt8
 | x :: a, y :: b => (if x = y then 48 else 49) :: xorB a b
 | _, _ => []
theorem bitU_of {l : List UInt8} (h : l.all isBitB = true) : ∀ c ∈ l, bitU c := by
 intro c hc
 rw [List.all_eq_true] at h
 rcases (isBit_iff _).1 (h c hc) with e | e
 ·exact .inl (UInt8.toNat_inj.1 (by show c.toNat = 48; omega))
 ·exact .inr (UInt8.toNat_inj.1 (by show c.toNat = 49; omega))
theorem str_same {s t : ByteArray} (h : s.data.toList = t.data.toList) : s = t := ByteArray.ext (Array.ext' h)
theorem xor_l0 (a b : ByteArray) (h : a.size = b.size) (hs : a.size ≤ 1000) : ∀ (d n : Nat) (o : ByteArray), n + d = a.size → o.size ≤ n →
 Ev (fun k => impl_xorBits.l0 k a b o (n : Int)) (o ++ (⟨(xorB (a.data.toList.drop n) (b.data.toList.drop n)).toArray⟩ : ByteArray)) := by
 intro d
 induction d with
 | zero =>
  intro n o hd ho
  have c1 : ¬ (n : Int) < (a.size : Int) := by omega
  have e : a.data.toList.drop n = [] := List.drop_eq_nil_of_le (by rw [size_data]; omega)
  rw [e]
  have e2 : o ++ (⟨(xorB [] (b.data.toList.drop n)).toArray⟩ : ByteArray) = o := by
   apply str_same
   rw [ByteArray.data_append, Array.toList_append]
   simp [xorB]
  rw [e2]
  apply Ev.succ
  simp only [impl_xorBits.l0]
  exact Ev.cond (fun h' => absurd h' c1) (fun _ => Ev.now _)
 | succ d ih =>
  intro n o hd ho
  have hn : n < a.size := by omega
  have hn2 : n < b.size := by omega
  have c1 : (n : Int) < (a.size : Int) := by omega
  have c2 : (0 : Int) ≤ (n : Int) := by omega
  have c3 : (n : Int) < (b.size : Int) := by omega
  have e1 : impl_bitOf.f (bt a (n : Int) != bt b (n : Int)) = some (⟨#[if a[n] = b[n] then 48 else 49]⟩ : ByteArray) := by
   rw [bt_nat a n hn, bt_nat b n hn2]
   unfold impl_bitOf.f
   by_cases e : a[n] = b[n]
   ·rw [if_pos e, e, bne_self_eq_false]; rfl
   ·have e3 : (((a[n]).toNat : Int) != ((b[n]).toNat : Int)) = true := bne_iff_ne.2 (fun e4 => e (UInt8.toNat_inj.1 (by omega)))
    rw [if_neg e, e3]; rfl
  have hsz : (⟨#[if a[n] = b[n] then (48 : UInt8) else 49]⟩ : ByteArray).size = 1 := rfl
  have h3 := ih (n + 1) (o ++ (⟨#[if a[n] = b[n] then 48 else 49]⟩ : ByteArray)) (by omega) (by rw [ByteArray.size_append, hsz]; omega)
  have e5 : o ++ (⟨#[if a[n] = b[n] then 48 else 49]⟩ : ByteArray) ++ (⟨(xorB (a.data.toList.drop (n + 1)) (b.data.toList.drop (n + 1))).toArray⟩ : ByteArray) = o ++ (⟨(xorB (a.data.toList.drop n) (b.data.toList.drop n)).toArray⟩ : ByteArray) := by
   rw [drop_data hn, drop_data hn2]
   apply str_same
   simp only [xorB, ByteArray.data_append, Array.toList_append, List.append_assoc]
   rfl
  rw [e5] at h3
  apply Ev.succ
  simp only [impl_xorBits.l0]
  refine Ev.cond (fun _ => ?_) (fun h' => absurd c1 h')
  refine Ev.cond (fun _ => ?_) (fun h' => absurd c2 h')
  refine Ev.cond (fun _ => ?_) (fun h' => absurd c3 h')
  refine Ev.bind (Ev.const e1) ?_
  refine Ev.cond (fun _ => ?_) (fun h' => absurd (show o.size + (⟨#[if a[n] = b[n] then (48 : UInt8) else 49]⟩ : ByteArray).size ≤ 140737488355328 by rw [hsz]; omega) h')
  rw [w64_succ (show n < 9223372036854775807 by omega)]
  exact h3
def flipU (c : UInt8) : UInt8 := if c = 49 then 48 else 49
def oppS (t : ByteArray) : ByteArray := ⟨(t.data.toList.map flipU).toArray⟩
theorem oppS_data (t : ByteArray) : (oppS t).data.toList = t.data.toList.map flipU := rfl
theorem oppS_size (t : ByteArray) : (oppS t).size = t.size := by rw [← size_data, oppS_data, List.length_map, size_data]
theorem xorB_rep : ∀ l : List UInt8, xorB l (Lib.repeatL [49] l.length) = l.map flipU
 | [] => rfl
 | c :: l => by
  have ih := xorB_rep l
  show xorB (c :: l) (49 :: Lib.repeatL [49] l.length) = _
  rw [xorB, ih]; rfl
theorem opposite_ev (t : ByteArray) (h : t.size ≤ 1000) : Ev (fun k => impl_opposite.f k t) (oppS t) := by
 have hl : (Lib.repeatL [49] t.size).length = t.size := by rw [Lib.repeatL_length]; simp
 have hz : (⟨(Lib.repeatL [49] t.size).toArray⟩ : ByteArray).size = t.size := by rw [← size_data]; exact hl
 have e : strings_Repeat.f (⟨#[49]⟩ : ByteArray) (t.size : Int) = some ⟨(Lib.repeatL [49] t.size).toArray⟩ := by
  unfold strings_Repeat.f
  have c0 : (⟨#[49]⟩ : ByteArray).size = 1 := rfl
  rw [if_pos ⟨by omega, by omega, by rw [c0, Int.toNat_natCast]; omega⟩, Int.toNat_natCast]
 have h3 := xor_l0 t (⟨(Lib.repeatL [49] t.size).toArray⟩ : ByteArray) hz.symm (by omega) t.size 0 (⟨#[]⟩ : ByteArray) (by omega) (Nat.le_refl _)
 have e2 : (⟨#[]⟩ : ByteArray) ++ (⟨(xorB (t.data.toList.drop 0) ((⟨(Lib.repeatL [49] t.size).toArray⟩ : ByteArray).data.toList.drop 0)).toArray⟩ : ByteArray) = oppS t := by
  apply str_same
  rw [ByteArray.data_append, Array.toList_append, List.drop_zero, List.drop_zero, oppS_data, ← xorB_rep, size_data]; rfl
 rw [e2] at h3
 unfold impl_opposite.f impl_xorBits.f
 exact Ev.bind (Ev.const e) (Ev.bind h3 (Ev.now _))
theorem l03Other_l0 (t : ByteArray) (h : t.size ≤ 1099511627776) : ∀ d n (out : List Int), n + d = t.size → out.length ≤ n → Ev (fun k => spec_l03Other.l0 k t out (n : Int)) (strOfNums (out ++ (t.data.toList.drop n).map (fun c => (97 - (c.toNat : Int)) % 256))) := by
 intro d
 induction d with
 | zero =>
  intro n out hd ho
  have c1 : ¬ (n : Int) < (t.size : Int) := by omega
  rw [List.drop_eq_nil_of_le (by rw [size_data]; omega), List.map_nil, List.append_nil]
  apply Ev.succ
  simp only [spec_l03Other.l0]
  exact Ev.cond (fun h' => absurd h' c1) (fun _ => Ev.now _)
 | succ d ih =>
  intro n out hd ho
  have hl : n < t.size := by omega
  have c1 : (n : Int) < (t.size : Int) := by omega
  have c2 : (0 : Int) ≤ (n : Int) := by omega
  have c3 : out.length < 140737488355328 := by omega
  have h3 := ih (n + 1) (out ++ [(97 - (t[n].toNat : Int)) % 256]) (by omega) (by rw [List.length_append, List.length_singleton]; omega)
  rw [List.append_assoc, List.singleton_append] at h3
  rw [drop_data hl, List.map_cons]
  apply Ev.succ
  simp only [spec_l03Other.l0, w64_succ (show n < 9223372036854775807 by omega), bt_nat t n hl]
  refine Ev.cond (fun _ => ?_) (fun h' => absurd c1 h')
  refine Ev.cond (fun _ => ?_) (fun h' => absurd c2 h')
  exact Ev.cond (fun _ => h3) (fun h' => absurd c3 h')
theorem l03Other_ev (t : ByteArray) (h : t.size ≤ 1099511627776) (hb : t.data.toList.all isBitB = true) : Ev (fun k => spec_l03Other.f k t) (oppS t) := by
 have h3 := l03Other_l0 t h t.size 0 [] (by omega) (Nat.le_refl _)
 have e : strOfNums (([] : List Int) ++ (t.data.toList.drop 0).map (fun c => (97 - (c.toNat : Int)) % 256)) = oppS t := by
  apply str_same
  rw [oppS_data, List.drop_zero, List.nil_append]
  show List.map (fun n : Int => UInt8.ofNat n.toNat) (List.map (fun c : UInt8 => (97 - (c.toNat : Int)) % 256) t.data.toList) = _
  rw [List.map_map]
  apply List.map_congr_left
  intro c hc
  rcases bitU_of hb c hc with rfl | rfl <;> rfl
 rw [e] at h3
 exact h3
theorem within_eq (a b c : Int) : impl_within.f a b c = some (decide (b ≤ a ∧ a ≤ c)) := by
 unfold impl_within.f
 by_cases h : b ≤ a
 ·simp [h, ge_iff_le]
 ·simp [h, ge_iff_le]
theorem l00In_eq (a b c : Int) : spec_l00In.f a b c = some (decide (b ≤ a ∧ a ≤ c)) := by
 unfold spec_l00In.f
 by_cases h : b ≤ a
 ·simp [h, ge_iff_le]
 ·simp [h, ge_iff_le]
theorem areIn_l0 (lo hi : Int) (xs : List Int) (hn : xs.length ≤ 1099511627776) : ∀ d n, n + d = xs.length → Ev (fun k => impl_areIn.l0 k lo hi xs (xs.length : Int) (n : Int)) (inAll lo hi (xs.drop n)) := by
 intro d
 induction d with
 | zero =>
  intro n h
  apply Ev.succ
  have h1 : ¬ ((n : Int) < (xs.length : Int)) := by omega
  have h2 : xs.drop n = [] := List.drop_eq_nil_of_le (by omega)
  simp only [impl_areIn.l0, h1, if_false, h2]
  exact Ev.now true
 | succ d ih =>
  intro n h
  apply Ev.succ
  have h1 : (n : Int) < (xs.length : Int) := by omega
  have h2 : (0 : Int) ≤ (n : Int) := by omega
  have h3 := ih (n + 1) (by omega)
  rw [drop_rd (show n < xs.length by omega), inAll_cons]
  simp only [impl_areIn.l0, h1, h2, if_true, within_eq, Option.bind_some, w64_succ (show n < 9223372036854775807 by omega)]
  by_cases hc : lo ≤ rd xs (n : Int) ∧ rd xs (n : Int) ≤ hi
  ·simp only [hc, decide_true, if_true, Bool.true_and, and_self]; exact h3
  ·simp only [hc, decide_false, Bool.false_and, Bool.false_eq_true, if_false]; exact Ev.now false
theorem areIn_ev (lo hi : Int) (xs : List Int) (hn : xs.length ≤ 1099511627776) : Ev (fun k => impl_areIn.f k xs lo hi) (inAll lo hi xs) := by
 have h := areIn_l0 lo hi xs hn xs.length 0 (by omega)
 exact h
abbrev FlR := Int × Int × Bool
def flN (sent got : Nat → Bool) : List Nat → Int → FlR
 | [], _ => (0, 0, false)
 | b :: r, c => if sent b = true then (if got b = true then (c + 1, (b : Int), true) else flN sent got r (c + 1)) else flN sent got r c
def bent (T : ByteArray) (a : Nat) : ByteArray := (T.extract 0 a ++ oppS (sb T a)) ++ T.extract (a + 1) T.size
theorem bent_size {T : ByteArray} {a : Nat} (h : a < T.size) : (bent T a).size = T.size := by
 unfold bent
 rw [ByteArray.size_append, ByteArray.size_append, ByteArray.size_extract, ByteArray.size_extract, oppS_size, sb_size h]; omega
theorem sb_bits {T : ByteArray} {a : Nat} (hb : T.data.toList.all isBitB = true) : (sb T a).data.toList.all isBitB = true := by
 unfold sb
 rw [List.all_eq_true] at hb ⊢
 intro c hc
 rw [ByteArray.data_extract, Array.toList_extract] at hc
 exact hb c (List.mem_of_mem_drop (List.mem_of_mem_take hc))
def catS (ws : List ByteArray) : List Int → ByteArray → ByteArray
 | [], a => a
 | y :: r, a => catS ws r (a ++ sn ws y.toNat)
theorem sr_int (xs : List ByteArray) (z : Int) : rdOf ByteArray.empty xs z = sn xs z.toNat := rfl
def finR (ws : List ByteArray) (at_ : Int) (T : ByteArray) : FlR :=
 if T.size ≤ 400 ∧ 0 ≤ at_ ∧ at_ ≤ (T.size : Int) - 1 then flN (endAt ws T) (endAt ws (bent T at_.toNat)) (List.range' (at_.toNat + 1) (T.size - at_.toNat)) 0 else (0, 0, false)
theorem flI_l1 (sent got : Nat → Bool) (T : ByteArray) (hT : T.size ≤ 400) : ∀ d b (c : Int), 1 ≤ b → b + d = T.size + 1 → 0 ≤ c → c + (d : Int) ≤ 1000 →
 Ev (fun k => impl_FlipLoss.l1 k T (true :: (List.range' 1 T.size).map sent) (true :: (List.range' 1 T.size).map got) c (b : Int)) (flN sent got (List.range' b d) c) := by
 intro d
 induction d with
 | zero =>
  intro b c h1 h hc hd
  have c1 : ¬ (b : Int) ≤ (T.size : Int) := by omega
  apply Ev.succ
  simp only [impl_FlipLoss.l1]
  exact Ev.cond (fun h' => absurd h' c1) (fun _ => Ev.now _)
 | succ d ih =>
  intro b c h1 h hc hd
  have c1 : (b : Int) ≤ (T.size : Int) := by omega
  have c2 : (0 : Int) ≤ (b : Int) := by omega
  have c3 : ∀ f : Nat → Bool, (b : Int) < ((true :: (List.range' 1 T.size).map f).length : Int) := fun f => by rw [List.length_cons, List.length_map, List.length_range']; omega
  have e : wrap64 (c + 1) = c + 1 := w64 (by omega) (by omega)
  have h3 := ih (b + 1) (c + 1) (by omega) (by omega) (by omega) (by omega)
  have h4 := ih (b + 1) c (by omega) (by omega) (by omega) (by omega)
  rw [show List.range' b (d + 1) = b :: List.range' (b + 1) d from rfl]
  unfold flN
  apply Ev.succ
  simp only [impl_FlipLoss.l1, endsI_rd sent T.size b h1 (by omega), endsI_rd got T.size b h1 (by omega), e, w64_succ (show b < 9223372036854775807 by omega)]
  refine Ev.cond (fun _ => ?_) (fun h' => absurd c1 h')
  refine Ev.cond (fun _ => ?_) (fun h' => absurd c2 h')
  refine Ev.cond (fun _ => ?_) (fun h' => absurd (c3 sent) h')
  rcases sent b with _ | _
  ·exact Ev.cond (fun h' => absurd h' (by decide)) (fun _ => h4)
  refine Ev.cond (fun _ => ?_) (fun h' => absurd rfl h')
  refine Ev.cond (fun _ => ?_) (fun h' => absurd (c3 got) h')
  rcases got b with _ | _
  ·exact Ev.cond (fun h' => absurd h' (by decide)) (fun _ => h3)
  ·exact Ev.cond (fun _ => Ev.now _) (fun h' => absurd rfl h')
theorem has_l0 (xs : List Int) (z : Int) (hn : xs.length ≤ 1099511627776) : ∀ d n, n + d = xs.length → Ev (fun k => spec_l00Has.l0 k xs z (n : Int)) (decide (z ∈ xs.drop n)) := by
 intro d
 induction d with
 | zero =>
  intro n h
  have c1 : ¬ (n : Int) < (xs.length : Int) := by omega
  rw [List.drop_eq_nil_of_le (by omega)]
  apply Ev.succ
  simp only [spec_l00Has.l0]
  exact Ev.cond (fun h' => absurd h' c1) (fun _ => Ev.now _)
 | succ d ih =>
  intro n h
  have hl : n < xs.length := by omega
  have c1 : (n : Int) < (xs.length : Int) := by omega
  have c2 : (0 : Int) ≤ (n : Int) := by omega
  have h3 := ih (n + 1) (by omega)
  rw [drop_rd hl]
  apply Ev.succ
  simp only [spec_l00Has.l0, w64_succ (show n < 9223372036854775807 by omega)]
  refine Ev.cond (fun _ => ?_) (fun h' => absurd c1 h')
  refine Ev.cond (fun _ => ?_) (fun h' => absurd c2 h')
  refine Ev.cond (fun h1 => ?_) (fun h1 => ?_)
  ·rw [decide_eq_true (show z ∈ rd xs (n : Int) :: xs.drop (n + 1) by rw [h1]; exact List.mem_cons_self)]
   exact Ev.now _
  ·have e : decide (z ∈ rd xs (n : Int) :: xs.drop (n + 1)) = decide (z ∈ xs.drop (n + 1)) := decide_eq_decide.2 (by rw [List.mem_cons]; exact ⟨fun h2 => by rcases h2 with h2 | h2; exact absurd h2.symm h1; exact h2, fun h2 => .inr h2⟩)
   rw [e]; exact h3
theorem has_ev (xs : List Int) (z : Int) (hn : xs.length ≤ 1099511627776) : Ev (fun k => spec_l00Has.f k xs z) (decide (z ∈ xs)) := by
 have h := has_l0 xs z hn xs.length 0 (by omega)
 rw [List.drop_zero] at h
 exact h
theorem ownL_mem (ws : List ByteArray) (s : ByteArray) (b : Nat) (h1 : 1 ≤ b) (h2 : b ≤ s.size) : decide ((b : Int) ∈ ownL ws s 1 s.size) = endAt ws s b := by
 rw [Bool.eq_iff_iff, decide_eq_true_iff]
 unfold ownL
 constructor
 ·intro h
  obtain ⟨c, hc, e⟩ := List.mem_map.1 h
  obtain rfl : c = b := by omega
  exact (List.mem_filter.1 hc).2
 ·intro h
  exact List.mem_map.2 ⟨b, List.mem_filter.2 ⟨List.mem_range'_1.2 ⟨h1, by omega⟩, h⟩, rfl⟩
theorem ownL_length (ws : List ByteArray) (s : ByteArray) (n d : Nat) : (ownL ws s n d).length ≤ d := by
 unfold ownL
 rw [List.length_map]
 exact Nat.le_trans (List.length_filter_le _ _) (by rw [List.length_range']; exact Nat.le_refl _)
theorem flS_l1 (ws : List ByteArray) (T B : ByteArray) (hT : T.size ≤ 400) (hB : B.size = T.size) (a : Nat) : ∀ d b (c : Int) (pr : List Int), b + d = T.size + 1 → 0 ≤ c → c + (d : Int) ≤ 1000 → pr.length < b →
 Ev (fun k => spec_FlipLoss.l1 k (a : Int) (pr ++ ownL ws T b d) (ownL ws B 1 B.size) c (pr.length : Int)) (flN (endAt ws T) (endAt ws B) (List.range' (max b (a + 1)) (T.size + 1 - max b (a + 1))) c) := by
 intro d
 induction d with
 | zero =>
  intro b c pr h hc hd hp
  have e0 : ownL ws T b 0 = [] := rfl
  have c1 : ¬ (pr.length : Int) < ((pr ++ ownL ws T b 0).length : Int) := by rw [e0, List.append_nil]; omega
  rw [show T.size + 1 - max b (a + 1) = 0 by omega]
  apply Ev.succ
  simp only [spec_FlipLoss.l1]
  exact Ev.cond (fun h' => absurd h' c1) (fun _ => Ev.now _)
 | succ d ih =>
  intro b c pr h hc hd hp
  rw [ownL_succ]
  by_cases he : endAt ws T b = true
  ·rw [if_pos he]
   have c1 : (pr.length : Int) < ((pr ++ (b : Int) :: ownL ws T (b + 1) d).length : Int) := by rw [List.length_append, List.length_cons]; omega
   have c2 : (0 : Int) ≤ (pr.length : Int) := by omega
   have er : rd (pr ++ (b : Int) :: ownL ws T (b + 1) d) (pr.length : Int) = (b : Int) := by
    rw [rd_nat, List.getD_eq_getElem?_getD, List.getElem?_append_right (Nat.le_refl _), Nat.sub_self]; rfl
   have e : wrap64 (c + 1) = c + 1 := w64 (by omega) (by omega)
   have ew : wrap64 ((pr.length : Int) + 1) = ((pr ++ [(b : Int)]).length : Int) := by rw [w64 (by omega) (by omega), List.length_append, List.length_singleton]; omega
   have ea : pr ++ (b : Int) :: ownL ws T (b + 1) d = (pr ++ [(b : Int)]) ++ ownL ws T (b + 1) d := by rw [List.append_assoc, List.singleton_append]
   have hpl : (pr ++ [(b : Int)]).length < b + 1 := by rw [List.length_append, List.length_singleton]; omega
   by_cases hba : b ≤ a
   ·have c3 : (b : Int) ≤ (a : Int) := by omega
    have h3 := ih (b + 1) c (pr ++ [(b : Int)]) (by omega) hc (by omega) hpl
    rw [show max (b + 1) (a + 1) = max b (a + 1) by omega, ← ea] at h3
    apply Ev.succ
    simp only [spec_FlipLoss.l1, er, ew]
    refine Ev.cond (fun _ => ?_) (fun h' => absurd c1 h')
    refine Ev.cond (fun _ => ?_) (fun h' => absurd c2 h')
    exact Ev.cond (fun _ => h3) (fun h' => absurd c3 h')
   ·have c3 : ¬ (b : Int) ≤ (a : Int) := by omega
    have h3 := ih (b + 1) (c + 1) (pr ++ [(b : Int)]) (by omega) (by omega) (by omega) hpl
    rw [show max (b + 1) (a + 1) = b + 1 by omega, show T.size + 1 - (b + 1) = d by omega, ← ea] at h3
    rw [show max b (a + 1) = b by omega, show T.size + 1 - b = d + 1 by omega, show List.range' b (d + 1) = b :: List.range' (b + 1) d from rfl]
    unfold flN
    rw [if_pos he]
    have hh := has_ev (ownL ws B 1 B.size) (b : Int) (Nat.le_trans (ownL_length ws B 1 B.size) (by omega))
    rw [ownL_mem ws B b (by omega) (by omega)] at hh
    apply Ev.succ
    simp only [spec_FlipLoss.l1, er, ew, e]
    refine Ev.cond (fun _ => ?_) (fun h' => absurd c1 h')
    refine Ev.cond (fun _ => ?_) (fun h' => absurd c2 h')
    refine Ev.cond (fun h' => absurd h' c3) (fun _ => ?_)
    refine Ev.bind hh ?_
    rcases endAt ws B b with _ | _
    ·exact Ev.cond (fun h' => absurd h' (by decide)) (fun _ => h3)
    ·exact Ev.cond (fun _ => Ev.now _) (fun h' => absurd rfl h')
  ·rw [if_neg he]
   have h3 := ih (b + 1) c pr (by omega) hc (by omega) (by omega)
   by_cases hba : b ≤ a
   ·rw [show max (b + 1) (a + 1) = max b (a + 1) by omega] at h3
    exact h3
   ·rw [show max (b + 1) (a + 1) = b + 1 by omega, show T.size + 1 - (b + 1) = d by omega] at h3
    rw [show max b (a + 1) = b by omega, show T.size + 1 - b = d + 1 by omega, show List.range' b (d + 1) = b :: List.range' (b + 1) d from rfl]
    unfold flN
    rw [if_neg he]
    exact h3
theorem flI_fin (ws : List ByteArray) (hn : ws.length ≤ 1000) (T : ByteArray) (hz : T.size ≤ 10000) (hb : T.data.toList.all isBitB = true) (z : Int) (h1 : -9223372036854775808 ≤ z) (h2 : z ≤ 9223372036854775807) :
 Ev (fun k => if (T.size : Int) > 400 then (impl_FlipLoss.j2 k ws z T true) else ((impl_within.f z 0 (wrap64 ((T.size : Int) - 1))).bind fun t => (impl_FlipLoss.j2 k ws z T (!t)))) (finR ws z T) := by
 have no : Ev (fun k => impl_FlipLoss.j2 k ws z T true) (0, 0, false) := by
  apply Ev.succ
  simp only [impl_FlipLoss.j2]
  exact Ev.cond (fun _ => Ev.now _) (fun h' => absurd (by trivial) h')
 have e : wrap64 ((T.size : Int) - 1) = (T.size : Int) - 1 := w64 (by omega) (by omega)
 unfold finR
 by_cases h4 : T.size ≤ 400
 ·have c1 : ¬ (T.size : Int) > 400 := by omega
  refine Ev.cond (fun h' => absurd h' c1) (fun _ => ?_)
  rw [e]
  refine Ev.bind (Ev.const (within_eq _ _ _)) ?_
  by_cases hz0 : 0 ≤ z ∧ z ≤ (T.size : Int) - 1
  ·rw [if_pos ⟨h4, hz0.1, hz0.2⟩, decide_eq_true hz0]
   obtain ⟨a, rfl⟩ := Int.eq_ofNat_of_zero_le hz0.1
   have ha : a < T.size := by omega
   have hsz := sb_size ha
   have eo := oppS_size (sb T a)
   have x0 : (T.extract 0 a).size = a := by rw [ByteArray.size_extract]; omega
   have x1 : (T.extract 0 a ++ oppS (sb T a)).size = a + 1 := by rw [ByteArray.size_append, x0, eo, hsz]
   have x2 : (T.extract (a + 1) T.size).size = T.size - (a + 1) := by rw [ByteArray.size_extract]; omega
   have c2 : (0 : Int) ≤ (a : Int) := by omega
   have c3 : (a : Int) ≤ (T.size : Int) := by omega
   have c4 : (a : Int) ≤ ((a + 1 : Nat) : Int) := by omega
   have c5 : ((a + 1 : Nat) : Int) ≤ (T.size : Int) := by omega
   have c6 : (T.extract 0 a).size + (oppS (sb T a)).size ≤ 9223372036854775807 := by rw [x0, eo, hsz]; omega
   have c7 : (0 : Int) ≤ ((a + 1 : Nat) : Int) := by omega
   have c8 : (T.extract 0 a ++ oppS (sb T a)).size + (T.extract (a + 1) T.size).size ≤ 9223372036854775807 := by rw [x1, x2]; omega
   have hop : Ev (fun k => impl_opposite.f k (T.extract a (a + 1))) (oppS (sb T a)) := opposite_ev (sb T a) (by rw [hsz]; omega)
   have hen := endsI_ev ws (by omega) T (by omega)
   have heb : Ev (fun k => impl_ends.f k ws ((T.extract 0 a ++ oppS (sb T a)) ++ T.extract (a + 1) T.size)) (true :: (List.range' 1 T.size).map (endAt ws (bent T a))) := by
    have := endsI_ev ws (by omega) (bent T a) (by rw [bent_size ha]; omega)
    rw [bent_size ha] at this
    exact this
   have hl := flI_l1 (endAt ws T) (endAt ws (bent T a)) T h4 (T.size - a) (a + 1) 0 (by omega) (by omega) (Int.le_refl 0) (by omega)
   show Ev (fun k => impl_FlipLoss.j2 k ws (a : Int) T false) (flN (endAt ws T) (endAt ws (bent T a)) (List.range' (a + 1) (T.size - a)) 0)
   apply Ev.succ
   simp only [impl_FlipLoss.j2, w64_succ (show a < 9223372036854775807 by omega), Int.toNat_natCast]
   refine Ev.cond (fun h' => absurd h' (by decide)) (fun _ => ?_)
   refine Ev.bind hen ?_
   refine Ev.cond (fun _ => ?_) (fun h' => absurd c2 h')
   refine Ev.cond (fun _ => ?_) (fun h' => absurd c3 h')
   refine Ev.cond (fun _ => ?_) (fun h' => absurd c4 h')
   refine Ev.cond (fun _ => ?_) (fun h' => absurd c5 h')
   refine Ev.bind hop ?_
   refine Ev.cond (fun _ => ?_) (fun h' => absurd c6 h')
   refine Ev.cond (fun _ => ?_) (fun h' => absurd c7 h')
   refine Ev.cond (fun _ => ?_) (fun h' => absurd c8 h')
   exact Ev.bind heb hl
  ·rw [if_neg (fun h => hz0 h.2), decide_eq_false hz0]
   exact no
 ·have c1 : (T.size : Int) > 400 := by omega
  rw [if_neg (fun h => h4 h.1)]
  exact Ev.cond (fun _ => no) (fun h' => absurd c1 h')
theorem flS_fin (ws : List ByteArray) (hn : ws.length ≤ 1000) (T : ByteArray) (hz : T.size ≤ 10000) (hb : T.data.toList.all isBitB = true) (z : Int) (h1 : -9223372036854775808 ≤ z) (h2 : z ≤ 9223372036854775807) :
 Ev (fun k => if (T.size : Int) > 400 then (spec_FlipLoss.j2 k ws z T true) else ((spec_l00In.f z 0 (wrap64 ((T.size : Int) - 1))).bind fun t => (spec_FlipLoss.j2 k ws z T (!t)))) (finR ws z T) := by
 have no : Ev (fun k => spec_FlipLoss.j2 k ws z T true) (0, 0, false) := by
  apply Ev.succ
  simp only [spec_FlipLoss.j2]
  exact Ev.cond (fun _ => Ev.now _) (fun h' => absurd (by trivial) h')
 have e : wrap64 ((T.size : Int) - 1) = (T.size : Int) - 1 := w64 (by omega) (by omega)
 unfold finR
 by_cases h4 : T.size ≤ 400
 ·have c1 : ¬ (T.size : Int) > 400 := by omega
  refine Ev.cond (fun h' => absurd h' c1) (fun _ => ?_)
  rw [e]
  refine Ev.bind (Ev.const (l00In_eq _ _ _)) ?_
  by_cases hz0 : 0 ≤ z ∧ z ≤ (T.size : Int) - 1
  ·rw [if_pos ⟨h4, hz0.1, hz0.2⟩, decide_eq_true hz0]
   obtain ⟨a, rfl⟩ := Int.eq_ofNat_of_zero_le hz0.1
   have ha : a < T.size := by omega
   have hsz := sb_size ha
   have eo := oppS_size (sb T a)
   have x0 : (T.extract 0 a).size = a := by rw [ByteArray.size_extract]; omega
   have x1 : (T.extract 0 a ++ oppS (sb T a)).size = a + 1 := by rw [ByteArray.size_append, x0, eo, hsz]
   have x2 : (T.extract (a + 1) T.size).size = T.size - (a + 1) := by rw [ByteArray.size_extract]; omega
   have c2 : (0 : Int) ≤ (a : Int) := by omega
   have c3 : (a : Int) ≤ (T.size : Int) := by omega
   have c4 : (a : Int) ≤ ((a + 1 : Nat) : Int) := by omega
   have c5 : ((a + 1 : Nat) : Int) ≤ (T.size : Int) := by omega
   have c6 : (T.extract 0 a).size + (oppS (sb T a)).size ≤ 9223372036854775807 := by rw [x0, eo, hsz]; omega
   have c7 : (0 : Int) ≤ ((a + 1 : Nat) : Int) := by omega
   have c8 : (T.extract 0 a ++ oppS (sb T a)).size + (T.extract (a + 1) T.size).size ≤ 9223372036854775807 := by rw [x1, x2]; omega
   have hop : Ev (fun k => spec_l03Other.f k (T.extract a (a + 1))) (oppS (sb T a)) := l03Other_ev (sb T a) (by rw [hsz]; omega) (sb_bits hb)
   have hen := l05Ends_ev ws (by omega) T (by omega)
   have heb : Ev (fun k => spec_l05Ends.f k ws ((T.extract 0 a ++ oppS (sb T a)) ++ T.extract (a + 1) T.size)) (ownL ws (bent T a) 1 (bent T a).size) := l05Ends_ev ws (by omega) (bent T a) (by rw [bent_size ha]; omega)
   have hl := flS_l1 ws T (bent T a) h4 (bent_size ha) a T.size 1 0 [] (by omega) (Int.le_refl 0) (by omega) (by decide)
   rw [show max 1 (a + 1) = a + 1 by omega, show T.size + 1 - (a + 1) = T.size - a by omega, List.nil_append] at hl
   show Ev (fun k => spec_FlipLoss.j2 k ws (a : Int) T false) (flN (endAt ws T) (endAt ws (bent T a)) (List.range' (a + 1) (T.size - a)) 0)
   apply Ev.succ
   simp only [spec_FlipLoss.j2, w64_succ (show a < 9223372036854775807 by omega), Int.toNat_natCast]
   refine Ev.cond (fun h' => absurd h' (by decide)) (fun _ => ?_)
   refine Ev.bind hen ?_
   refine Ev.cond (fun _ => ?_) (fun h' => absurd c2 h')
   refine Ev.cond (fun _ => ?_) (fun h' => absurd c3 h')
   refine Ev.cond (fun _ => ?_) (fun h' => absurd c4 h')
   refine Ev.cond (fun _ => ?_) (fun h' => absurd c5 h')
   refine Ev.bind hop ?_
   refine Ev.cond (fun _ => ?_) (fun h' => absurd c6 h')
   refine Ev.cond (fun _ => ?_) (fun h' => absurd c7 h')
   refine Ev.cond (fun _ => ?_) (fun h' => absurd c8 h')
   exact Ev.bind heb hl
  ·rw [if_neg (fun h => hz0 h.2), decide_eq_false hz0]
   exact no
 ·have c1 : (T.size : Int) > 400 := by omega
  rw [if_neg (fun h => h4 h.1)]
  exact Ev.cond (fun _ => no) (fun h' => absurd c1 h')
theorem flI_l0 (ws : List ByteArray) (hc : codeB ws = true) (sy : List Int) (hy : sy.length ≤ 400) (hin : ∀ y ∈ sy, 0 ≤ y ∧ y ≤ (ws.length : Int) - 1) (z : Int) (h1 : -9223372036854775808 ≤ z) (h2 : z ≤ 9223372036854775807) :
 ∀ d n (a : ByteArray), n + d = sy.length → a.size ≤ 12 * n → a.data.toList.all isBitB = true → Ev (fun k => impl_FlipLoss.l0 k ws z a sy (sy.length : Int) (n : Int)) (finR ws z (catS ws (sy.drop n) a)) := by
 obtain ⟨hl1, hl2⟩ := codeB_len hc
 intro d
 induction d with
 | zero =>
  intro n a h ha hb
  have c1 : ¬ (n : Int) < (sy.length : Int) := by omega
  rw [List.drop_eq_nil_of_le (by omega)]
  apply Ev.succ
  simp only [impl_FlipLoss.l0]
  exact Ev.cond (fun h' => absurd h' c1) (fun _ => flI_fin ws (by omega) a (by omega) hb z h1 h2)
 | succ d ih =>
  intro n a h ha hb
  have hn : n < sy.length := by omega
  have c1 : (n : Int) < (sy.length : Int) := by omega
  have c2 : (0 : Int) ≤ (n : Int) := by omega
  have hm := hin _ (rd_mem hn)
  have c3 : rd sy (n : Int) < (ws.length : Int) := by omega
  have hs := codeB_size hc (rd sy (n : Int)).toNat
  have c4 : a.size + (rdOf ByteArray.empty ws (rd sy (n : Int))).size ≤ 9223372036854775807 := by rw [sr_int]; omega
  have h3 := ih (n + 1) (a ++ sn ws (rd sy (n : Int)).toNat) (by omega) (by rw [ByteArray.size_append]; omega) (by
   rw [ByteArray.data_append, Array.toList_append, List.all_append, hb, (codeB_at hc (show (rd sy (n : Int)).toNat < ws.length by omega)).2.1]; rfl)
  rw [drop_rd hn]
  unfold catS
  apply Ev.succ
  simp only [impl_FlipLoss.l0, w64_succ (show n < 9223372036854775807 by omega)]
  refine Ev.cond (fun _ => ?_) (fun h' => absurd c1 h')
  refine Ev.cond (fun _ => ?_) (fun h' => absurd c2 h')
  refine Ev.cond (fun _ => ?_) (fun h' => absurd c1 h')
  refine Ev.cond (fun _ => ?_) (fun h' => absurd hm.1 h')
  refine Ev.cond (fun _ => ?_) (fun h' => absurd c3 h')
  exact Ev.cond (fun _ => h3) (fun h' => absurd c4 h')
theorem flS_l0 (ws : List ByteArray) (hc : codeB ws = true) (sy : List Int) (hy : sy.length ≤ 400) (z : Int) (h1 : -9223372036854775808 ≤ z) (h2 : z ≤ 9223372036854775807) :
 ∀ d n (a : ByteArray), n + d = sy.length → a.size ≤ 12 * n → a.data.toList.all isBitB = true → Ev (fun k => spec_FlipLoss.l0 k ws sy z a (n : Int)) (if inAll 0 ((ws.length : Int) - 1) (sy.drop n) = true then finR ws z (catS ws (sy.drop n) a) else (0, 0, false)) := by
 obtain ⟨hl1, hl2⟩ := codeB_len hc
 have ew : wrap64 ((ws.length : Int) - 1) = (ws.length : Int) - 1 := w64 (by omega) (by omega)
 intro d
 induction d with
 | zero =>
  intro n a h ha hb
  have c1 : ¬ (n : Int) < (sy.length : Int) := by omega
  rw [List.drop_eq_nil_of_le (by omega), if_pos (show inAll 0 ((ws.length : Int) - 1) [] = true from rfl)]
  apply Ev.succ
  simp only [spec_FlipLoss.l0]
  exact Ev.cond (fun h' => absurd h' c1) (fun _ => flS_fin ws (by omega) a (by omega) hb z h1 h2)
 | succ d ih =>
  intro n a h ha hb
  have hn : n < sy.length := by omega
  have c1 : (n : Int) < (sy.length : Int) := by omega
  have c2 : (0 : Int) ≤ (n : Int) := by omega
  rw [drop_rd hn, inAll_cons]
  unfold catS
  apply Ev.succ
  simp only [spec_FlipLoss.l0, w64_succ (show n < 9223372036854775807 by omega), ew]
  refine Ev.cond (fun _ => ?_) (fun h' => absurd c1 h')
  refine Ev.cond (fun _ => ?_) (fun h' => absurd c2 h')
  refine Ev.bind (Ev.const (l00In_eq _ _ _)) ?_
  by_cases hm : 0 ≤ rd sy (n : Int) ∧ rd sy (n : Int) ≤ (ws.length : Int) - 1
  ·rw [decide_eq_true hm, Bool.true_and]
   have c3 : rd sy (n : Int) < (ws.length : Int) := by omega
   have hs := codeB_size hc (rd sy (n : Int)).toNat
   have c4 : a.size + (rdOf ByteArray.empty ws (rd sy (n : Int))).size ≤ 9223372036854775807 := by rw [sr_int]; omega
   have h3 := ih (n + 1) (a ++ sn ws (rd sy (n : Int)).toNat) (by omega) (by rw [ByteArray.size_append]; omega) (by
    rw [ByteArray.data_append, Array.toList_append, List.all_append, hb, (codeB_at hc (show (rd sy (n : Int)).toNat < ws.length by omega)).2.1]; rfl)
   refine Ev.cond (fun _ => ?_) (fun h' => absurd rfl h')
   refine Ev.cond (fun _ => ?_) (fun h' => absurd hm.1 h')
   refine Ev.cond (fun _ => ?_) (fun h' => absurd c3 h')
   exact Ev.cond (fun _ => h3) (fun h' => absurd c4 h')
  ·rw [decide_eq_false hm, Bool.false_and, if_neg (by decide)]
   exact Ev.cond (fun h' => absurd h' (by decide)) (fun _ => Ev.now _)
def flR (ws : List ByteArray) (sy : List Int) (z : Int) : FlR :=
 if (codeB ws = true ∧ complB ws = true) ∧ 2 ≤ ws.length ∧ sy.length ≤ 400 then (if inAll 0 ((ws.length : Int) - 1) sy = true then finR ws z (catS ws sy (⟨#[]⟩ : ByteArray)) else (0, 0, false)) else (0, 0, false)
theorem FlipLossI_ev (ws : List ByteArray) (hn : ws.length ≤ 1099511627776) (hs : totS ws ≤ 1099511627776) (sy : List Int) (hy : sy.length ≤ 1099511627776) (z : Int) (h1 : -9223372036854775808 ≤ z) (h2 : z ≤ 9223372036854775807) :
 Ev (fun k => impl_FlipLoss.f k ws sy z) (flR ws sy z) := by
 have no : Ev (fun k => impl_FlipLoss.j0 k ws sy z true) (0, 0, false) := by
  apply Ev.succ
  simp only [impl_FlipLoss.j0]
  exact Ev.cond (fun _ => Ev.now _) (fun h' => absurd (by trivial) h')
 unfold impl_FlipLoss.f flR
 refine Ev.bind (IsCompleteI_ev ws hn hs) ?_
 by_cases hc : codeB ws = true ∧ complB ws = true
 ·rw [hc.1, hc.2]
  refine Ev.cond (fun _ => ?_) (fun h' => absurd rfl h')
  obtain ⟨hl1, hl2⟩ := codeB_len hc.1
  by_cases h3 : 2 ≤ ws.length
  ·have c1 : ¬ (ws.length : Int) < 2 := by omega
   refine Ev.cond (fun h' => absurd h' c1) (fun _ => ?_)
   by_cases h4 : sy.length ≤ 400
   ·have c2 : ¬ (sy.length : Int) > 400 := by omega
    rw [if_pos ⟨⟨rfl, rfl⟩, h3, h4⟩]
    refine Ev.cond (fun h' => absurd h' c2) (fun _ => ?_)
    rw [w64 (show -9223372036854775808 ≤ (ws.length : Int) - 1 by omega) (by omega)]
    refine Ev.bind (areIn_ev 0 ((ws.length : Int) - 1) sy hy) ?_
    rcases hi : inAll 0 ((ws.length : Int) - 1) sy with _ | _
    ·rw [if_neg (by decide)]; exact no
    ·rw [if_pos rfl]
     have hl := flI_l0 ws hc.1 sy h4 (fun y hy => inAll_mem hi y hy) z h1 h2 sy.length 0 (⟨#[]⟩ : ByteArray) (by omega) (Nat.le_refl _) rfl
     rw [List.drop_zero] at hl
     apply Ev.succ
     simp only [impl_FlipLoss.j0]
     exact Ev.cond (fun h' => absurd h' (by decide)) (fun _ => hl)
   ·have c2 : (sy.length : Int) > 400 := by omega
    rw [if_neg (fun h => h4 h.2.2)]
    exact Ev.cond (fun _ => no) (fun h' => absurd c2 h')
  ·have c1 : (ws.length : Int) < 2 := by omega
   rw [if_neg (fun h => h3 h.2.1)]
   exact Ev.cond (fun _ => no) (fun h' => absurd c1 h')
 ·rw [if_neg (fun h => hc h.1), show (codeB ws && complB ws) = false from Bool.eq_false_iff.2 (fun h => hc (by rw [Bool.and_eq_true] at h; exact h))]
  exact Ev.cond (fun h' => absurd h' (by decide)) (fun _ => no)
theorem FlipLossS_ev (ws : List ByteArray) (hn : ws.length ≤ 1099511627776) (hs : totS ws ≤ 1099511627776) (sy : List Int) (hy : sy.length ≤ 1099511627776) (z : Int) (h1 : -9223372036854775808 ≤ z) (h2 : z ≤ 9223372036854775807) :
 Ev (fun k => spec_FlipLoss.f k ws sy z) (flR ws sy z) := by
 have no : Ev (fun k => spec_FlipLoss.j0 k ws sy z true) (0, 0, false) := by
  apply Ev.succ
  simp only [spec_FlipLoss.j0]
  exact Ev.cond (fun _ => Ev.now _) (fun h' => absurd (by trivial) h')
 unfold spec_FlipLoss.f flR
 refine Ev.bind (l05Is_ev ws hn hs) ?_
 rcases hc : codeB ws with _ | _
 ·rw [if_neg (fun h => absurd h.1.1 (by decide))]
  exact Ev.cond (fun h' => absurd h' (by decide)) (fun _ => no)
 refine Ev.cond (fun _ => ?_) (fun h' => absurd rfl h')
 by_cases h3 : 2 ≤ ws.length
 ·have c1 : ¬ (ws.length : Int) < 2 := by omega
  refine Ev.cond (fun h' => absurd h' c1) (fun _ => ?_)
  refine Ev.bind (l05Complete_ev ws hc hs) ?_
  rcases complB ws with _ | _
  ·rw [if_neg (fun h => absurd h.1.2 (by decide))]
   exact Ev.cond (fun h' => absurd h' (by decide)) (fun _ => no)
  refine Ev.cond (fun _ => ?_) (fun h' => absurd rfl h')
  by_cases h4 : sy.length ≤ 400
  ·rw [if_pos ⟨⟨rfl, rfl⟩, h3, h4⟩, decide_eq_false (show ¬ (sy.length : Int) > 400 by omega)]
   have hl := flS_l0 ws hc sy h4 z h1 h2 sy.length 0 (⟨#[]⟩ : ByteArray) (by omega) (Nat.le_refl _) rfl
   rw [List.drop_zero] at hl
   apply Ev.succ
   simp only [spec_FlipLoss.j0]
   exact Ev.cond (fun h' => absurd h' (by decide)) (fun _ => hl)
  ·rw [if_neg (fun h => h4 h.2.2), decide_eq_true (show (sy.length : Int) > 400 by omega)]
   exact no
 ·have c1 : (ws.length : Int) < 2 := by omega
  rw [if_neg (fun h => h3 h.2.1)]
  exact Ev.cond (fun _ => no) (fun h' => absurd c1 h')
theorem ofL_nil : ofL [] = (⟨#[]⟩ : ByteArray) := rfl
theorem rdB_word {ws : List ByteArray} {p : List UInt8} {c : UInt8} (h : p ++ [c] ∈ dW ws) : rdB ws (ofL p) (ofL [c]) = (⟨#[]⟩ : ByteArray) := by
 unfold rdB
 rw [ofL_app, if_pos (dW_mem.1 h)]
theorem rdB_more {ws : List ByteArray} {p : List UInt8} {c : UInt8} (h : p ++ [c] ∉ dW ws) : rdB ws (ofL p) (ofL [c]) = ofL (p ++ [c]) := by
 unfold rdB
 rw [ofL_app, if_neg (fun h2 => h (dW_mem.2 h2))]
theorem run_word {ws : List ByteArray} (hp : PF 12 (dW ws)) (l : List UInt8) : ∀ (q p : List UInt8), q ≠ [] → p ++ q ∈ dW ws → runL ws (ofL p) (q ++ l) = runL ws (⟨#[]⟩ : ByteArray) l
 | [], _, h, _ => absurd rfl h
 | c :: q, p, _, h => by
  show runL ws (rdB ws (ofL p) (ofL [c])) (q ++ l) = _
  cases q with
  | nil => rw [rdB_word h]; rfl
  | cons d q =>
   have hne : p ++ [c] ∉ dW ws := fun hm => by
    have := hp.pre (p ++ [c]) hm (d :: q) (by rw [List.append_assoc]; exact h)
    exact absurd this (by simp)
   rw [rdB_more hne]
   exact run_word hp l (d :: q) (p ++ [c]) (by simp) (by rw [List.append_assoc]; exact h)
theorem run_none {ws : List ByteArray} (l : List UInt8) (hno : ∀ p q, p ++ q = l → p ∈ dW ws → False) : ∀ (q p : List UInt8), p ++ q = l → runL ws (ofL p) q = ofL l
 | [], p, h => by rw [List.append_nil] at h; rw [← h]; rfl
 | c :: q, p, h => by
  show runL ws (rdB ws (ofL p) (ofL [c])) q = _
  have h2 : p ++ [c] ++ q = l := by rw [List.append_assoc]; exact h
  rw [rdB_more (fun hm => hno _ _ h2 hm)]
  exact run_none l hno q (p ++ [c]) h2
theorem run_part {ws : List ByteArray} (hp : PF 12 (dW ws)) (d : UInt8) (r : List UInt8) : ∀ (q p : List UInt8), p ++ (q ++ d :: r) ∈ dW ws → runL ws (ofL p) q = ofL (p ++ q)
 | [], p, _ => by rw [List.append_nil]; rfl
 | c :: q, p, h => by
  show runL ws (rdB ws (ofL p) (ofL [c])) q = _
  have h2 : p ++ [c] ++ (q ++ d :: r) ∈ dW ws := by rw [List.append_assoc]; exact h
  have hne : p ++ [c] ∉ dW ws := fun hm => by
   have := hp.pre (p ++ [c]) hm _ h2
   exact absurd this (by simp)
  rw [rdB_more hne, run_part hp d r q (p ++ [c]) h2, List.append_assoc]; rfl
def parB (ws : List ByteArray) (l : List UInt8) : Bool := decide (runL ws (⟨#[]⟩ : ByteArray) l = ⟨#[]⟩)
theorem par_nil (ws : List ByteArray) : parB ws [] = true := decide_eq_true rfl
theorem par_word {ws : List ByteArray} (hp : PF 12 (dW ws)) {w : ByteArray} (hw : w ∈ ws) (hs : 1 ≤ w.size) (l : List UInt8) : parB ws (w.data.toList ++ l) = parB ws l := by
 have hne : w.data.toList ≠ [] := fun e => by
  have h := size_data w
  rw [e, List.length_nil] at h; omega
 have h := run_word hp l w.data.toList [] hne (dW_mem'.2 hw)
 unfold parB
 rw [← ofL_nil, h]
 rfl
theorem par_none {ws : List ByteArray} {l : List UInt8} (hl : l ≠ []) (hno : ∀ w ∈ ws, ∀ q, w.data.toList ++ q ≠ l) : parB ws l = false := by
 unfold parB
 refine decide_eq_false fun h => ?_
 rw [← ofL_nil, run_none l (fun p q e hm => hno (ofL p) (dW_mem.1 hm) q (by rw [ofL_data]; exact e)) l [] rfl] at h
 exact hl (ofL_inj h)
theorem run_reader {ws : List ByteArray} (hp : PF 12 (dW ws)) {x : ByteArray} (hx : x ∈ rdrs ws) (l : List UInt8) : runL ws (⟨#[]⟩ : ByteArray) (x.data.toList ++ l) = runL ws x l := by
 obtain ⟨d, r, h⟩ := (rdrs_mem ws x).1 hx
 rw [runL_app, ← ofL_nil, run_part hp d r x.data.toList [] h, List.nil_append, ofL_of]
theorem rdN_run (ws : List ByteArray) (s : ByteArray) : ∀ n, n ≤ s.size → rdN ws s n = runL ws (⟨#[]⟩ : ByteArray) (s.data.toList.take n)
 | 0, _ => rfl
 | n + 1, h => by
  show rdB ws (rdN ws s n) (sb s n) = _
  have hl : n < s.data.toList.length := by rw [size_data]; omega
  rw [rdN_run ws s n (by omega), List.take_succ_eq_append_getElem hl, runL_app]
  have e : sb s n = ofL [s.data.toList[n]] := by
   unfold sb
   rw [ext_ofL, List.drop_eq_getElem_cons hl, show n + 1 - n = 1 by omega]; rfl
  rw [e]; rfl
theorem endAt_par (ws : List ByteArray) (s : ByteArray) {n : Nat} (h : n ≤ s.size) : endAt ws s n = parB ws (s.data.toList.take n) := by
 unfold endAt parB
 rw [rdN_run ws s n h, Bool.eq_iff_iff, beq_iff_eq, decide_eq_true_iff]
 constructor
 ·intro e
  exact bytes_ext (e.trans (by rw [Lib.toList_data]))
 ·intro e; rw [e, Lib.toList_data]
theorem par_app {ws : List ByteArray} {l : List UInt8} (h : parB ws l = true) (k : List UInt8) : parB ws (l ++ k) = parB ws k := by
 unfold parB at h ⊢
 rw [runL_app, of_decide_eq_true h]
theorem ownL_snoc {ws : List ByteArray} (hp : PF 12 (dW ws)) {T w : ByteArray} (hT : parB ws T.data.toList = true) (hw : w ∈ ws) (hs : 1 ≤ w.size) :
 ownL ws (T ++ w) 1 (T ++ w).size = ownL ws T 1 T.size ++ [((T ++ w).size : Int)] ∧ parB ws (T ++ w).data.toList = true := by
 have hd : (T ++ w).data.toList = T.data.toList ++ w.data.toList := by rw [ByteArray.data_append, Array.toList_append]
 have hTl : T.data.toList.length = T.size := size_data T
 have hwl : w.data.toList.length = w.size := size_data w
 have hsz : (T ++ w).size = T.size + w.size := ByteArray.size_append
 have hend : parB ws (T ++ w).data.toList = true := by
  rw [hd, par_app hT]
  have h := par_word hp hw hs []
  rw [List.append_nil] at h
  rw [h]; exact par_nil ws
 refine ⟨?_, hend⟩
 have h1 : ∀ n, n ≤ T.size → endAt ws (T ++ w) n = endAt ws T n := fun n hn => by
  rw [endAt_par ws _ (by omega), endAt_par ws _ hn, hd, List.take_append_of_le_length (by omega)]
 have h2 : ∀ n, T.size < n → n < T.size + w.size → endAt ws (T ++ w) n = false := fun n hn1 hn2 => by
  rw [endAt_par ws _ (by omega), hd, List.take_append, List.take_of_length_le (by omega), par_app hT, hTl]
  unfold parB
  refine decide_eq_false fun h => ?_
  have hl : n - T.size < w.data.toList.length := by omega
  have h3 : w.data.toList.take (n - T.size) ++ w.data.toList[n - T.size] :: w.data.toList.drop (n - T.size + 1) ∈ dW ws := by
   rw [← List.drop_eq_getElem_cons hl, List.take_append_drop]; exact dW_mem'.2 hw
  rw [← ofL_nil, run_part hp _ _ _ [] h3, List.nil_append] at h
  have h4 := congrArg List.length (ofL_inj h)
  rw [List.length_take, List.length_nil] at h4
  omega
 have h3 : endAt ws (T ++ w) (T.size + w.size) = true := by
  rw [endAt_par ws _ (by omega), List.take_of_length_le (by rw [hd, List.length_append]; omega)]; exact hend
 unfold ownL
 obtain ⟨m, hm⟩ : ∃ m, w.size = m + 1 := ⟨w.size - 1, by omega⟩
 have e : List.range' 1 (T ++ w).size = List.range' 1 T.size ++ (List.range' (1 + T.size) m ++ [T.size + w.size]) := by
  rw [hsz, hm, ← List.range'_append_1, List.range'_concat]
  congr 2
  rw [Nat.one_mul]
  congr 1
  omega
 rw [e, List.filter_append, List.filter_append, List.map_append]
 have f1 : (List.range' 1 T.size).filter (endAt ws (T ++ w)) = (List.range' 1 T.size).filter (endAt ws T) := List.filter_congr fun x hx => h1 x (by have := (List.mem_range'_1.1 hx).2; omega)
 have f2 : (List.range' (1 + T.size) m).filter (endAt ws (T ++ w)) = [] := by
  rw [List.filter_eq_nil_iff]
  intro x hx
  have hx := List.mem_range'_1.1 hx
  rw [h2 x (by omega) (by omega)]; exact Bool.false_ne_true
 have f3 : [T.size + w.size].filter (endAt ws (T ++ w)) = [T.size + w.size] := by rw [List.filter_cons, if_pos h3]; rfl
 rw [f1, f2, f3, hsz]
 rfl
theorem rd_set_same {xs : List Int} {s v : Int} (h0 : 0 ≤ s) (h : s < (xs.length : Int)) : rd (xs.set s.toNat v) s = v := by
 unfold rd
 rw [List.getD_eq_getElem?_getD, List.getElem?_set_self (by omega)]; rfl
theorem rd_set_ne {xs : List Int} {s t v : Int} (h0 : 0 ≤ s) (h1 : 0 ≤ t) (h : s ≠ t) : rd (xs.set s.toNat v) t = rd xs t := by
 unfold rd
 rw [List.getD_eq_getElem?_getD, List.getD_eq_getElem?_getD, List.getElem?_set_ne (by omega)]
theorem l01At_at (s p : ByteArray) (hp : p.size ≤ 1099511627776) (i : Nat) (hi : i ≤ s.size) (hs : s.size ≤ 1099511627776) : spec_l01At.f s p (i : Int) = some (isPre p (s.extract i s.size)) := by
 unfold spec_l01At.f isPre
 have e : wrap64 ((i : Int) + (p.size : Int)) = ((i + p.size : Nat) : Int) := w64_add i p.size (by omega)
 have ez : (s.extract i s.size).size = s.size - i := by rw [ByteArray.size_extract]; omega
 simp only [e]
 by_cases h : i + p.size ≤ s.size
 ·have c1 : ((i + p.size : Nat) : Int) ≤ (s.size : Int) := by omega
  have c2 : (0 : Int) ≤ (i : Int) := by omega
  have c3 : (i : Int) ≤ ((i + p.size : Nat) : Int) := by omega
  have e2 : (s.extract i (i + p.size)).toList = ((s.extract i s.size).extract 0 p.size).toList := by
   rw [Lib.toList_data, Lib.toList_data, ext_data, ext_data, ext_data, List.drop_zero, Nat.sub_zero, List.take_take]
   congr 1; omega
  rw [if_pos c1, if_pos c2, if_pos c3, decide_eq_true (show p.size ≤ (s.extract i s.size).size by omega), Bool.true_and]
  simp only [Int.toNat_natCast]
  rw [e2]
 ·have c1 : ¬ ((i + p.size : Nat) : Int) ≤ (s.size : Int) := by omega
  rw [if_neg c1, decide_eq_false (show ¬ p.size ≤ (s.extract i s.size).size by omega)]; rfl
def matB (s p : ByteArray) (i : Nat) : Bool := isPre p (s.extract i s.size)
theorem matB_iff (s p : ByteArray) (i : Nat) : matB s p i = true ↔ ∃ v, s.data.toList.drop i = p.data.toList ++ v := by
 unfold matB
 rw [isPre_iff, ext_data, List.take_of_length_le (by rw [List.length_drop, size_data]; omega)]
def wayV (ws : List ByteArray) (s : ByteArray) (i : Nat) : Int := if parB ws (s.data.toList.drop i) = true then 1 else 0
theorem wayV_le (ws : List ByteArray) (s : ByteArray) (i : Nat) : 0 ≤ wayV ws s i ∧ wayV ws s i ≤ 1 := by unfold wayV; split <;> omega
theorem min_way (v : Int) (h0 : 0 ≤ v) (h : v ≤ 1) : spec_l00Min.f 1000000000000000 v = some v := by
 unfold spec_l00Min.f
 rw [if_neg (by omega)]
theorem ways_l1 {ws : List ByteArray} (hc : codeB ws = true) (hp : PF 12 (dW ws)) (s : ByteArray) (hs : s.size ≤ 1000) (i : Nat) (hi : i < s.size) {P : List Int → Prop}
 (hr : ∀ xs : List Int, xs.length = s.size + 1 → (∀ j, i ≤ j → j ≤ s.size → rd xs (j : Int) = wayV ws s j) → (∀ j, j < i → rd xs (j : Int) = 0) → ∃ ys, Ev (fun k => spec_l05Ways.l0 k ws s 1000000000000000 xs ((i : Int) - 1)) ys ∧ P ys) :
 ∀ (d n : Nat) (xs : List Int), n + d = ws.length → xs.length = s.size + 1 → (∀ j, i < j → j ≤ s.size → rd xs (j : Int) = wayV ws s j) → (∀ j, j < i → rd xs (j : Int) = 0) →
  ((rd xs (i : Int) = 0 ∧ ∀ m, m < n → matB s (sn ws m) i = false) ∨ (rd xs (i : Int) = wayV ws s i ∧ ∃ m, m < n ∧ matB s (sn ws m) i = true)) →
  ∃ ys, Ev (fun k => spec_l05Ways.l1 k ws s 1000000000000000 xs (i : Int) (n : Int)) ys ∧ P ys := by
 have hl := codeB_len hc
 intro d
 induction d with
 | zero =>
  intro n xs h hx h1 h2 h3
  have c1 : ¬ (n : Int) < (ws.length : Int) := by omega
  have hv : rd xs (i : Int) = wayV ws s i := by
   rcases h3 with ⟨h3, h4⟩ | ⟨h3, _⟩
   ·rw [h3]
    unfold wayV
    rw [par_none (ws := ws) (l := s.data.toList.drop i) (fun e => by
     have := congrArg List.length e
     rw [List.length_drop, size_data, List.length_nil] at this; omega) (fun w hw q e => by
     obtain ⟨m, hm, rfl⟩ := List.mem_iff_getElem.1 hw
     have h5 := h4 m (by omega)
     rw [sn_get hm] at h5
     have h6 := (matB_iff s ws[m] i).2 ⟨q, e.symm⟩
     rw [h5] at h6; exact absurd h6 (by decide))]
    rfl
   ·exact h3
  obtain ⟨ys, g1, g2⟩ := hr xs hx (fun j ha hb => by
   by_cases e : j = i
   ·rw [e]; exact hv
   ·exact h1 j (by omega) hb) h2
  refine ⟨ys, ?_, g2⟩
  apply Ev.succ
  simp only [spec_l05Ways.l1, show wrap64 ((i : Int) - 1) = (i : Int) - 1 from w64 (by omega) (by omega)]
  exact Ev.cond (fun h' => absurd h' c1) (fun _ => g1)
 | succ d ih =>
  intro n xs h hx h1 h2 h3
  have hn : n < ws.length := by omega
  have c1 : (n : Int) < (ws.length : Int) := by omega
  have c2 : (0 : Int) ≤ (n : Int) := by omega
  have hw := codeB_at hc hn
  have eat := l01At_at s (sn ws n) (by omega) i (by omega) (by omega)
  rcases hm : matB s (sn ws n) i with _ | _
  ·obtain ⟨ys, g1, g2⟩ := ih (n + 1) xs (by omega) hx h1 h2 (by
    rcases h3 with ⟨h3, h4⟩ | ⟨h3, m, h4, h5⟩
    ·refine .inl ⟨h3, fun m hm2 => ?_⟩
     by_cases e : m = n
     ·rw [e]; exact hm
     ·exact h4 m (by omega)
    ·exact .inr ⟨h3, m, by omega, h5⟩)
   refine ⟨ys, ?_, g2⟩
   apply Ev.succ
   simp only [spec_l05Ways.l1, sr_nat, w64_succ (show n < 9223372036854775807 by omega)]
   refine Ev.cond (fun _ => ?_) (fun h' => absurd c1 h')
   refine Ev.cond (fun _ => ?_) (fun h' => absurd c2 h')
   refine Ev.bind (Ev.const eat) ?_
   exact Ev.cond (fun h' => absurd (hm.symm.trans h') (by decide)) (fun _ => g1)
  ·obtain ⟨v, ev⟩ := (matB_iff s (sn ws n) i).1 hm
   have h0 : rd xs (i : Int) = 0 := by
    rcases h3 with ⟨h3, _⟩ | ⟨_, m, h4, h5⟩
    ·exact h3
    ·exfalso
     obtain ⟨v2, ev2⟩ := (matB_iff s (sn ws m) i).1 h5
     rw [ev] at ev2
     have hml : m < ws.length := by omega
     have hmm := dW_mem'.2 (sn_mem hml)
     have hmn := dW_mem'.2 (sn_mem hn)
     have he : sn ws m = sn ws n := by
      refine ByteArray.ext (Array.ext' ?_)
      rcases List.append_eq_append_iff.1 ev2 with ⟨a, e1, e2⟩ | ⟨a, e1, e2⟩
      ·rw [e1] at hmm
       have := hp.pre _ hmn a hmm
       rw [e1, this, List.append_nil]
      ·rw [e1] at hmn
       have := hp.pre _ hmm a hmn
       rw [e1, this, List.append_nil]
     have hnd := code_nodup hc
     unfold List.Nodup at hnd
     rw [List.pairwise_iff_getElem] at hnd
     rw [sn_get hml, sn_get hn] at he
     exact hnd m n hml hn h4 he
   have hsz : (s.data.toList.drop i).length = s.size - i := by rw [List.length_drop, size_data]
   have hle : i + (sn ws n).size ≤ s.size := by
    rw [ev, List.length_append, size_data] at hsz; omega
   have hv : wayV ws s (i + (sn ws n).size) = wayV ws s i := by
    unfold wayV
    rw [← List.drop_drop, ev, par_word hp (sn_mem hn) hw.1.1, ← size_data (sn ws n), List.drop_left]
   have er : rd xs ((i + (sn ws n).size : Nat) : Int) = wayV ws s i := by rw [h1 _ (by omega) hle, hv]
   have hb := wayV_le ws s i
   have hxi : (i : Int) < (xs.length : Int) := by omega
   obtain ⟨ys, g1, g2⟩ := ih (n + 1) (xs.set i (wayV ws s i)) (by omega) (by rw [List.length_set]; exact hx) (fun j ha hb2 => by
    have := rd_set_ne (xs := xs) (s := (i : Int)) (t := (j : Int)) (v := wayV ws s i) (by omega) (by omega) (by omega)
    rw [Int.toNat_natCast] at this
    rw [this]; exact h1 j ha hb2) (fun j ha => by
    have := rd_set_ne (xs := xs) (s := (i : Int)) (t := (j : Int)) (v := wayV ws s i) (by omega) (by omega) (by omega)
    rw [Int.toNat_natCast] at this
    rw [this]; exact h2 j ha) (.inr ⟨by
    have := rd_set_same (xs := xs) (s := (i : Int)) (v := wayV ws s i) (by omega) hxi
    rw [Int.toNat_natCast] at this
    exact this, n, by omega, hm⟩)
   refine ⟨ys, ?_, g2⟩
   have c3 : (0 : Int) ≤ (i : Int) := by omega
   have c4 : (0 : Int) ≤ ((i + (sn ws n).size : Nat) : Int) := by omega
   have c5 : ((i + (sn ws n).size : Nat) : Int) < (xs.length : Int) := by omega
   have e1 : wrap64 ((i : Int) + ((sn ws n).size : Int)) = ((i + (sn ws n).size : Nat) : Int) := w64_add i _ (by omega)
   have e2 : wrap64 (0 + wayV ws s i) = wayV ws s i := by rw [w64 (by omega) (by omega)]; omega
   apply Ev.succ
   simp only [spec_l05Ways.l1, sr_nat, w64_succ (show n < 9223372036854775807 by omega), e1, h0, er, e2, Int.toNat_natCast]
   refine Ev.cond (fun _ => ?_) (fun h' => absurd c1 h')
   refine Ev.cond (fun _ => ?_) (fun h' => absurd c2 h')
   refine Ev.bind (Ev.const eat) ?_
   refine Ev.cond (fun _ => ?_) (fun h' => absurd hm h')
   refine Ev.cond (fun _ => ?_) (fun h' => absurd c3 h')
   refine Ev.cond (fun _ => ?_) (fun h' => absurd hxi h')
   refine Ev.cond (fun _ => ?_) (fun h' => absurd c4 h')
   refine Ev.cond (fun _ => ?_) (fun h' => absurd c5 h')
   exact Ev.bind (Ev.const (min_way _ hb.1 hb.2)) g1
theorem ways_l0 {ws : List ByteArray} (hc : codeB ws = true) (hp : PF 12 (dW ws)) (s : ByteArray) (hs : s.size ≤ 1000) : ∀ (i : Nat) (xs : List Int), i ≤ s.size → xs.length = s.size + 1 → (∀ j, i ≤ j → j ≤ s.size → rd xs (j : Int) = wayV ws s j) → (∀ j, j < i → rd xs (j : Int) = 0) →
 ∃ ys : List Int, Ev (fun k => spec_l05Ways.l0 k ws s 1000000000000000 xs ((i : Int) - 1)) ys ∧ (ys.length = s.size + 1 ∧ rd ys 0 = wayV ws s 0)
 | 0, xs, _, hx, h1, _ => by
  refine ⟨xs, ?_, hx, h1 0 (Nat.le_refl _) (Nat.zero_le _)⟩
  apply Ev.succ
  simp only [spec_l05Ways.l0]
  exact Ev.cond (fun h' => absurd h' (by omega)) (fun _ => Ev.now _)
 | i + 1, xs, hi, hx, h1, h2 => by
  have hl := codeB_len hc
  obtain ⟨ys, g1, g2⟩ := ways_l1 hc hp s hs i (by omega) (P := fun ys => ys.length = s.size + 1 ∧ rd ys 0 = wayV ws s 0) (fun xs' a b c => ways_l0 hc hp s hs i xs' (by omega) a b c) ws.length 0 xs (by omega) hx (fun j a b => h1 j (by omega) b) (fun j a => h2 j (by omega)) (.inl ⟨h2 i (by omega), fun m hm => absurd hm (by omega)⟩)
  refine ⟨ys, ?_, g2⟩
  have e : (((i + 1 : Nat) : Int) - 1) = (i : Int) := by omega
  rw [e]
  apply Ev.succ
  simp only [spec_l05Ways.l0]
  exact Ev.cond (fun _ => g1) (fun h' => absurd (show (i : Int) ≥ 0 by omega) h')
theorem ParsesOf_ev {ws : List ByteArray} (hc : codeB ws = true) (hp : PF 12 (dW ws)) (hs2 : totS ws ≤ 1099511627776) (s : ByteArray) (hb : bitsB s = true) (hpar : parB ws s.data.toList = true) : Ev (fun k => spec_ParsesOf.f k ws s) (1, true) := by
 have hl := codeB_len hc
 have hs : s.size ≤ 400 := by
  unfold bitsB at hb
  rw [Bool.and_eq_true] at hb
  exact of_decide_eq_true hb.2
 have e1 : wrap64 ((s.size : Int) + 1) = ((s.size + 1 : Nat) : Int) := w64_add s.size 1 (by omega)
 have c1 : (0 : Int) ≤ ((s.size + 1 : Nat) : Int) := by omega
 have c2 : s.size + 1 ≤ 35184372088832 := by omega
 have c3 : (0 : Int) ≤ (s.size : Int) := by omega
 have c4 : (s.size : Int) < ((List.replicate (s.size + 1) (0 : Int)).length : Int) := by rw [List.length_replicate]; omega
 have hz : ∀ j, j < s.size → rd ((List.replicate (s.size + 1) (0 : Int)).set s.size 1) (j : Int) = 0 := fun j hj => by
  have := rd_set_ne (xs := List.replicate (s.size + 1) (0 : Int)) (s := (s.size : Int)) (t := (j : Int)) (v := 1) (by omega) (by omega) (by omega)
  rw [Int.toNat_natCast] at this
  rw [this, rd_nat, List.getD_eq_getElem?_getD, List.getElem?_replicate, if_pos (by omega)]; rfl
 have hz1 : rd ((List.replicate (s.size + 1) (0 : Int)).set s.size 1) (s.size : Int) = 1 := by
  have := rd_set_same (xs := List.replicate (s.size + 1) (0 : Int)) (s := (s.size : Int)) (v := 1) (by omega) c4
  rw [Int.toNat_natCast] at this
  exact this
 obtain ⟨ys, g1, g2, g3⟩ := ways_l0 hc hp s (by omega) s.size ((List.replicate (s.size + 1) (0 : Int)).set s.size 1) (Nat.le_refl _) (by rw [List.length_set, List.length_replicate]) (fun j a b => by
  obtain rfl : j = s.size := by omega
  rw [hz1]
  unfold wayV
  rw [List.drop_eq_nil_of_le (by rw [size_data]; exact Nat.le_refl _), par_nil, if_pos rfl]) hz
 have g3 : rd ys 0 = 1 := by
  rw [g3]; unfold wayV
  rw [List.drop_zero, hpar, if_pos rfl]
 have hw : Ev (fun k => spec_l05Ways.f k ws s 1000000000000000) ys := by
  unfold spec_l05Ways.f
  simp only [e1, Int.toNat_natCast]
  refine Ev.cond (fun _ => ?_) (fun h' => absurd c1 h')
  refine Ev.cond (fun _ => ?_) (fun h' => absurd c2 h')
  refine Ev.bind (Ev.now _) ?_
  refine Ev.cond (fun _ => ?_) (fun h' => absurd c3 h')
  refine Ev.cond (fun _ => ?_) (fun h' => absurd c4 h')
  rw [show wrap64 ((s.size : Int) - 1) = (s.size : Int) - 1 from w64 (by omega) (by omega)]
  exact g1
 unfold spec_ParsesOf.f
 refine Ev.bind (l05Is_ev ws (by omega) hs2) ?_
 refine Ev.cond (fun _ => ?_) (fun h' => absurd hc h')
 refine Ev.bind (l01Bits_ev s (by omega)) ?_
 refine Ev.cond (fun _ => ?_) (fun h' => absurd hb h')
 refine Ev.bind hw ?_
 refine Ev.cond (fun _ => ?_) (fun h' => absurd (show (0 : Int) < (ys.length : Int) by omega) h')
 rw [g3]; exact Ev.now _
theorem KK_perm {d : Nat} {W V : List (List UInt8)} (h : W.Perm V) : KK d W = KK d V := by
 unfold KK
 induction h with
 | nil => rfl
 | cons x _ ih => rw [List.map_cons, List.map_cons, List.sum_cons, List.sum_cons, ih]
 | swap x y l => simp only [List.map_cons, List.sum_cons]; omega
 | trans _ _ i1 i2 => rw [i1, i2]
theorem PF.perm {d : Nat} {W V : List (List UInt8)} (h : W.Perm V) (p : PF d W) : PF d V where
 nd := h.nodup_iff.1 p.nd
 pre := fun u hu v hv => p.pre u (h.mem_iff.2 hu) v (h.mem_iff.2 hv)
 bit := fun w hw => p.bit w (h.mem_iff.2 hw)
 len := fun w hw => p.len w (h.mem_iff.2 hw)
theorem PF_split {d : Nat} {w : List UInt8} {V : List (List UInt8)} (p : PF d (w :: V)) (hw : w.length + 1 ≤ d) :
 PF d ((w ++ [49]) :: (w ++ [48]) :: V) ∧ KK d ((w ++ [49]) :: (w ++ [48]) :: V) = KK d (w :: V) := by
 have hnw : w ∉ V := (List.nodup_cons.1 p.nd).1
 have hno : ∀ c : UInt8, ∀ v, w ++ c :: v ∉ V := fun c v hv => by
  have := p.pre w List.mem_cons_self (c :: v) (List.mem_cons_of_mem _ hv)
  exact absurd this (by simp)
 have hne : w ++ [49] ≠ w ++ [48] := fun e => absurd (List.append_cancel_left e) (by decide)
 have hbk : ∀ u ∈ V, ∀ (v : List UInt8) (c : UInt8), u ++ v = w ++ [c] → v = [] := by
  intro u hu v c e
  rcases List.eq_nil_or_concat v with rfl | ⟨v', x, rfl⟩
  ·rfl
  ·rw [List.concat_eq_append, ← List.append_assoc] at e
   have e2 := List.append_inj_left' e rfl
   have e3 := p.pre u (List.mem_cons_of_mem _ hu) v' (by rw [e2]; exact List.mem_cons_self)
   rw [e3, List.append_nil] at e2
   rw [e2] at hu
   exact absurd hu hnw
 refine ⟨⟨?_, ?_, ?_, ?_⟩, ?_⟩
 ·rw [List.nodup_cons, List.nodup_cons, List.mem_cons]
  exact ⟨fun h => h.elim hne (hno 49 []), hno 48 [], (List.nodup_cons.1 p.nd).2⟩
 ·intro u hu v hv
  have two : ∀ c : UInt8, (∀ v, w ++ [c] ++ v ∈ (w ++ [49]) :: (w ++ [48]) :: V → v = []) := by
   intro c v hv
   simp only [List.mem_cons] at hv
   rcases hv with hv | hv | hv
   ·rw [List.append_assoc] at hv
    have e := List.append_cancel_left hv
    have e2 := congrArg List.length e
    simp at e2
    exact e2
   ·rw [List.append_assoc] at hv
    have e := List.append_cancel_left hv
    have e2 := congrArg List.length e
    simp at e2
    exact e2
   ·rw [List.append_assoc] at hv
    exact absurd hv (hno c v)
  have hu2 := hu
  simp only [List.mem_cons] at hu2
  rcases hu2 with rfl | rfl | hu2
  ·exact two 49 v hv
  ·exact two 48 v hv
  ·simp only [List.mem_cons] at hv
   rcases hv with hv | hv | hv
   ·exact hbk u hu2 v 49 hv
   ·exact hbk u hu2 v 48 hv
   ·exact p.pre u (List.mem_cons_of_mem _ hu2) v (List.mem_cons_of_mem _ hv)
 ·intro x hx c hc
  have hb := p.bit w List.mem_cons_self
  simp only [List.mem_cons] at hx
  rcases hx with rfl | rfl | hx
  ·rw [List.mem_append, List.mem_singleton] at hc
   exact hc.elim (hb c) .inr
  ·rw [List.mem_append, List.mem_singleton] at hc
   exact hc.elim (hb c) .inl
  ·exact p.bit x (List.mem_cons_of_mem _ hx) c hc
 ·intro x hx
  simp only [List.mem_cons] at hx
  rcases hx with rfl | rfl | hx
  ·rw [List.length_append]; exact hw
  ·rw [List.length_append]; exact hw
  ·exact p.len x (List.mem_cons_of_mem _ hx)
 ·unfold KK
  simp only [List.map_cons, List.sum_cons, List.length_append, List.length_singleton]
  obtain ⟨k, hk⟩ : ∃ k, d - w.length = k + 1 := ⟨d - w.length - 1, by omega⟩
  rw [show d - (w.length + 1) = k by omega, hk, Nat.pow_succ]; omega
theorem code_mk {ws : List ByteArray} (hl : 1 ≤ ws.length ∧ ws.length ≤ 16) (h0 : ∀ w ∈ ws, 1 ≤ w.size) (p : PF 12 (dW ws)) (hk : KK 12 (dW ws) = 2 ^ 12) : codeB ws = true ∧ complB ws = true := by
 have hs : ∀ w ∈ ws, w.size ≤ 12 := fun w hw => by
  have := p.len _ (dW_mem'.2 hw)
  rw [size_data] at this; exact this
 have hnd : ws.Nodup := by
  have h := p.nd
  unfold dW at h
  exact List.Pairwise.of_map _ (fun a b hab => fun e => hab (by rw [e])) h
 refine ⟨?_, ?_⟩
 ·unfold codeB codeR
  rw [Bool.and_eq_true, List.all_eq_true]
  refine ⟨decide_eq_true hl, fun i hi => ?_⟩
  have hi := (List.mem_range'_1.1 hi).2
  have hi : i < ws.length := by omega
  have hm := sn_mem hi
  unfold codeI
  rw [Bool.and_eq_true, Bool.and_eq_true]
  refine ⟨decide_eq_true ⟨h0 _ hm, hs _ hm⟩, ?_, ?_⟩
  ·rw [List.all_eq_true]
   intro c hc
   have := p.bit _ (dW_mem'.2 hm) c hc
   unfold isBitB
   rw [Bool.or_eq_true, beq_iff_eq, beq_iff_eq]; exact this
  ·rw [Bool.not_eq_true', decide_eq_false_iff_not]
   intro hm2
   obtain ⟨j, hj, e⟩ := List.mem_take_iff_getElem.1 hm2
   unfold List.Nodup at hnd
   rw [List.pairwise_iff_getElem] at hnd
   rw [sn_get hi] at e
   exact hnd j i (by omega) hi (by omega) e
 ·unfold complB prefR preR
  rw [Bool.and_eq_true, List.all_eq_true]
  refine ⟨fun i hi => ?_, ?_⟩
  ·have hi : i < ws.length := by have := (List.mem_range'_1.1 hi).2; omega
   rw [List.all_eq_true]
   intro k hk'
   have hk' : k < ws.length := by have := (List.mem_range'_1.1 hk').2; omega
   rw [Bool.or_eq_true, decide_eq_true_iff, Bool.not_eq_true']
   by_cases e : i = k
   ·exact .inl e
   refine .inr (Bool.eq_false_iff.2 fun h => ?_)
   obtain ⟨v, hv⟩ := (isPre_iff _ _).1 h
   have h1 := p.pre _ (dW_mem'.2 (sn_mem hi)) v (by rw [← hv]; exact dW_mem'.2 (sn_mem hk'))
   rw [h1, List.append_nil] at hv
   have h2 : sn ws i = sn ws k := (ByteArray.ext (Array.ext' hv)).symm
   rw [sn_get hi, sn_get hk'] at h2
   unfold List.Nodup at hnd
   rw [List.pairwise_iff_getElem] at hnd
   rcases Nat.lt_or_gt_of_ne e with h3 | h3
   ·exact hnd i k hi hk' h3 h2
   ·exact hnd k i hk' hi h3 h2.symm
  ·have e := krF_sum ws 0 hs (by omega)
   rw [show ((0 : Nat) : Int) = 0 from rfl, hk] at e
   rw [e]; rfl
def splitW (ws : List ByteArray) (k : Nat) : List ByteArray := ws.set k (sn ws k ++ (⟨#[48]⟩ : ByteArray)) ++ [sn ws k ++ (⟨#[49]⟩ : ByteArray)]
structure Grown (n : Nat) (ws : List ByteArray) : Prop where
 len : ws.length = n
 pf : PF 12 (dW ws)
 kk : KK 12 (dW ws) = 2 ^ 12
 size : ∀ w ∈ ws, 1 ≤ w.size ∧ w.size + 1 ≤ n
theorem splitW_length (ws : List ByteArray) (k : Nat) : (splitW ws k).length = ws.length + 1 := by
 unfold splitW; rw [List.length_append, List.length_set]; rfl
theorem Grown.split {n : Nat} {ws : List ByteArray} (h : Grown n ws) (hn : n ≤ 12) {k : Nat} (hk : k < n) : Grown (n + 1) (splitW ws k) := by
 have hl := h.len
 have hkl : k < ws.length := by omega
 have hm := sn_mem hkl
 have e1 : ws = ws.take k ++ sn ws k :: ws.drop (k + 1) := by rw [← drop_sn hkl, List.take_append_drop]
 have p1 : ws.Perm (sn ws k :: (ws.take k ++ ws.drop (k + 1))) := (List.Perm.of_eq e1).trans List.perm_middle
 have e2 : splitW ws k = (ws.take k ++ (sn ws k ++ (⟨#[48]⟩ : ByteArray)) :: ws.drop (k + 1)) ++ [sn ws k ++ (⟨#[49]⟩ : ByteArray)] := by
  unfold splitW
  rw [List.set_eq_take_append_cons_drop, if_pos hkl]
 have p2 : (splitW ws k).Perm ((sn ws k ++ (⟨#[49]⟩ : ByteArray)) :: (sn ws k ++ (⟨#[48]⟩ : ByteArray)) :: (ws.take k ++ ws.drop (k + 1))) := by
  rw [e2]
  exact (List.perm_append_singleton _ _).trans (List.Perm.cons _ List.perm_middle)
 have q1 := p1.map (·.data.toList)
 have q2 := p2.map (·.data.toList)
 have d1 : ∀ (a : ByteArray) (c : UInt8), (a ++ ofL [c]).data.toList = a.data.toList ++ [c] := fun a c => by rw [ByteArray.data_append, Array.toList_append]; rfl
 rw [List.map_cons] at q1
 rw [List.map_cons, List.map_cons, show (⟨#[49]⟩ : ByteArray) = ofL [49] from rfl, show (⟨#[48]⟩ : ByteArray) = ofL [48] from rfl, d1, d1] at q2
 have hsz := h.size _ hm
 obtain ⟨s1, s2⟩ := PF_split (PF.perm q1 h.pf) (by rw [size_data]; omega)
 refine ⟨by rw [splitW_length, hl], PF.perm q2.symm s1, ?_, ?_⟩
 ·unfold dW
  rw [KK_perm q2, s2, ← KK_perm q1]
  exact h.kk
 ·intro w hw
  have hw2 := p2.mem_iff.1 hw
  simp only [List.mem_cons] at hw2
  rcases hw2 with rfl | rfl | hw2
  ·rw [ByteArray.size_append]
   show 1 ≤ (sn ws k).size + 1 ∧ (sn ws k).size + 1 + 1 ≤ n + 1
   omega
  ·rw [ByteArray.size_append]
   show 1 ≤ (sn ws k).size + 1 ∧ (sn ws k).size + 1 + 1 ≤ n + 1
   omega
  ·have := h.size w (p1.mem_iff.2 (List.mem_cons_of_mem _ hw2))
   omega
theorem Grown.start : Grown 2 [(⟨#[48]⟩ : ByteArray), (⟨#[49]⟩ : ByteArray)] where
 len := rfl
 pf := ⟨by decide, fun u hu v hv => by
  have hone : ∀ x ∈ dW [(⟨#[48]⟩ : ByteArray), (⟨#[49]⟩ : ByteArray)], x.length = 1 := by decide
  have h1 := hone u hu
  have h2 := hone _ hv
  rw [List.length_append] at h2
  exact List.eq_nil_of_length_eq_zero (by omega), by decide, by decide⟩
 kk := by decide
 size := by decide
theorem Grown.code {n : Nat} {ws : List ByteArray} (h : Grown n ws) (h1 : 1 ≤ n) (h2 : n ≤ 13) : codeB ws = true ∧ complB ws = true :=
 code_mk (by have := h.len; omega) (fun w hw => (h.size w hw).1) h.pf h.kk
theorem wf_u8 {x : Int} (h : (Lit.int .u8 x).wf = true) : 0 ≤ x ∧ x ≤ 255 := by
 have h1 : decide (IntKind.min .u8 ≤ x) = true ∧ decide (x ≤ IntKind.max .u8) = true := by
  simpa [Lit.wf] using h
 obtain ⟨ha, hb⟩ := h1
 have ha := of_decide_eq_true ha
 have hb := of_decide_eq_true hb
 have e1 : IntKind.min .u8 = 0 := by decide
 have e2 : IntKind.max .u8 = 255 := by decide
 rw [e1] at ha
 rw [e2] at hb
 exact ⟨ha, hb⟩
theorem u64_mod (z : Int) : IntKind.u64.wrap z = z % 18446744073709551616 := by simp [IntKind.wrap, IntKind.bits, IntKind.signed]
theorem u64_and255 (z : Int) : 0 ≤ wrap64 (Go.bits .and .u64 ((IntKind.u64.wrap z) / 1099511627776) 255) ∧ wrap64 (Go.bits .and .u64 ((IntKind.u64.wrap z) / 1099511627776) 255) ≤ 255 := by
 obtain ⟨Y, hY⟩ := Int.eq_ofNat_of_zero_le (show 0 ≤ (IntKind.u64.wrap z) / 1099511627776 by rw [u64_mod]; omega)
 have hlt : Y < 18446744073709551616 := by rw [u64_mod] at hY; omega
 rw [hY]
 have h2 : Go.bits .and .u64 (Y : Int) 255 = ((Y &&& 255 : Nat) : Int) := bits_and_u64_nat Y 255 hlt (by decide)
 rw [h2]
 have h3 : Y &&& 255 ≤ 255 := Nat.and_le_right
 rw [w64 (by omega) (by omega)]
 omega
theorem src_next (l : List Int) (h : ∀ x ∈ l, (Lit.int .u8 x).wf = true) (p : Nat) (hs : Int) (hp : p < 1099511627776) : ∃ v hs', spec_l00Src_next.f l (p : Int) hs = some (v, ((p + 1 : Nat) : Int), hs') ∧ 0 ≤ v ∧ v ≤ 255 := by
 have hw : wrap64 ((p : Int) + 1) = ((p + 1 : Nat) : Int) := w64_succ (by omega)
 unfold spec_l00Src_next.f
 by_cases h1 : p < l.length
 ·have hx := wf_u8 (h _ (rd_mem h1))
  rw [if_pos (show (p : Int) < (l.length : Int) by omega), if_pos (show (0 : Int) ≤ (p : Int) by omega), hw, if_pos (show ((p + 1 : Nat) : Int) ≤ (l.length : Int) by omega)]
  refine ⟨_, _, rfl, ?_⟩
  rw [w64 (by omega) (by omega)]
  exact hx
 ·rw [if_neg (show ¬ (p : Int) < (l.length : Int) by omega), hw, if_neg (show ¬ ((p + 1 : Nat) : Int) ≤ (l.length : Int) by omega)]
  exact ⟨_, _, rfl, u64_and255 _⟩
theorem src_pick (l : List Int) (h : ∀ x ∈ l, (Lit.int .u8 x).wf = true) (p : Nat) (hs a : Int) (hp : p < 1099511627776) (ha : 2 ≤ a) (ha2 : a ≤ 200) : ∃ v hs', spec_l00Src_pick.f l (p : Int) hs a = some (v, ((p + 1 : Nat) : Int), hs') ∧ 0 ≤ v ∧ v < a := by
 obtain ⟨v, hs', h1, h2, h3⟩ := src_next l h p hs hp
 unfold spec_l00Src_pick.f
 rw [if_neg (by omega), h1, Option.bind_some, if_neg (by omega), if_neg (by omega)]
 exact ⟨_, _, rfl, Int.tmod_nonneg _ h2, Int.tmod_lt_of_pos _ (by omega)⟩
theorem B10Complete_l0 (l : List Int) (h : ∀ x ∈ l, (Lit.int .u8 x).wf = true) (N : Nat) (hN : N ≤ 8) : ∀ (d n : Nat) (ws : List ByteArray) (p : Nat) (hs : Int), n + d = N → 2 ≤ n → p + d ≤ 1000000 → Grown n ws →
 ∃ ys, Ev (fun k => spec_B10Complete.l0 k (N : Int) ws l (p : Int) hs) ys ∧ Grown N ys := by
 intro d
 induction d with
 | zero =>
  intro n ws p hs hn h2 hp hg
  obtain rfl : n = N := by omega
  have c1 : ¬ (ws.length : Int) < (n : Int) := by have := hg.len; omega
  refine ⟨ws, ?_, hg⟩
  apply Ev.succ
  simp only [spec_B10Complete.l0]
  exact Ev.cond (fun h' => absurd h' c1) (fun _ => Ev.now _)
 | succ d ih =>
  intro n ws p hs hn h2 hp hg
  have hl := hg.len
  obtain ⟨v, hs', e, hv0, hv1⟩ := src_pick l h p hs (ws.length : Int) (by omega) (by omega) (by omega)
  obtain ⟨m, rfl⟩ := Int.eq_ofNat_of_zero_le hv0
  have hm : m < n := by omega
  obtain ⟨ys, g1, g2⟩ := ih (n + 1) (splitW ws m) (p + 1) hs' (by omega) (by omega) (by omega) (hg.split (by omega) hm)
  refine ⟨ys, ?_, g2⟩
  have hz := hg.size _ (sn_mem (show m < ws.length by omega))
  have c1 : (ws.length : Int) < (N : Int) := by omega
  have c2 : (0 : Int) ≤ (m : Int) := by omega
  have c3 : (sn ws m).size + 1 ≤ 9223372036854775807 := by omega
  have c4 : (ws.set m (sn ws m ++ (⟨#[48]⟩ : ByteArray))).length < 8796093022208 := by rw [List.length_set]; omega
  apply Ev.succ
  simp only [spec_B10Complete.l0]
  refine Ev.cond (fun _ => ?_) (fun h' => absurd c1 h')
  refine Ev.bind (Ev.const e) ?_
  simp only [sr_nat, Int.toNat_natCast]
  refine Ev.cond (fun _ => ?_) (fun h' => absurd c2 h')
  refine Ev.cond (fun _ => ?_) (fun h' => absurd hv1 h')
  refine Ev.cond (fun _ => ?_) (fun h' => absurd c3 h')
  refine Ev.bind (Ev.now _) ?_
  exact Ev.cond (fun _ => g1) (fun h' => absurd c4 h')
theorem B10Complete_ev (l : List Int) (h : ∀ x ∈ l, (Lit.int .u8 x).wf = true) (N : Nat) (h2 : 2 ≤ N) (hN : N ≤ 8) : ∃ ys, Ev (fun k => spec_B10Complete.f k l (N : Int)) ys ∧ Grown N ys := by
 obtain ⟨ys, g1, g2⟩ := B10Complete_l0 l h N hN (N - 2) 2 _ 0 0 (by omega) (Nat.le_refl _) (by omega) Grown.start
 refine ⟨ys, ?_, g2⟩
 unfold spec_B10Complete.f
 have e0 : spec_l00From.f l = some (l, 0, 0) := rfl
 exact Ev.bind (Ev.const e0) g1
theorem B10Symbols_l0 (l : List Int) (h : ∀ x ∈ l, (Lit.int .u8 x).wf = true) (N : Nat) (h2 : 2 ≤ N) (hN : N ≤ 8) : ∀ (d : Nat) (xs : List Int) (p : Nat) (hs : Int), p + d ≤ 1000000 → xs.length + d ≤ 1000 → (∀ x ∈ xs, 0 ≤ x ∧ x < (N : Int)) →
 ∃ ys : List Int, Ev (fun k => spec_B10Symbols.l0 k (N : Int) xs (d : Int) l (p : Int) hs) ys ∧ ys.length = xs.length + d ∧ (∀ x ∈ ys, 0 ≤ x ∧ x < (N : Int)) := by
 intro d
 induction d with
 | zero =>
  intro xs p hs hp hl hx
  refine ⟨xs, ?_, by omega, hx⟩
  apply Ev.succ
  simp only [spec_B10Symbols.l0]
  exact Ev.cond (fun h' => absurd h' (by decide)) (fun _ => Ev.now _)
 | succ d ih =>
  intro xs p hs hp hl hx
  obtain ⟨v, hs', e, hv0, hv1⟩ := src_pick l h p hs (N : Int) (by omega) (by omega) (by omega)
  obtain ⟨ys, g1, g2, g3⟩ := ih (xs ++ [v]) (p + 1) hs' (by omega) (by rw [List.length_append, List.length_singleton]; omega) (by
   intro x hx2
   rcases List.mem_append.1 hx2 with hx2 | hx2
   ·exact hx x hx2
   ·rw [List.mem_singleton] at hx2; omega)
  refine ⟨ys, ?_, by rw [g2, List.length_append, List.length_singleton]; omega, g3⟩
  have e2 : wrap64 (((d + 1 : Nat) : Int) - 1) = (d : Int) := by rw [w64 (by omega) (by omega)]; omega
  have c1 : ((d + 1 : Nat) : Int) > 0 := by omega
  have c2 : xs.length < 17592186044416 := by omega
  apply Ev.succ
  simp only [spec_B10Symbols.l0, e2]
  refine Ev.cond (fun _ => ?_) (fun h' => absurd c1 h')
  refine Ev.bind (Ev.const e) ?_
  exact Ev.cond (fun _ => g1) (fun h' => absurd c2 h')
theorem B10Symbols_ev (l : List Int) (h : ∀ x ∈ l, (Lit.int .u8 x).wf = true) (N : Nat) (h2 : 2 ≤ N) (hN : N ≤ 8) : ∃ ys : List Int, Ev (fun k => spec_B10Symbols.f k l (N : Int)) ys ∧ ys.length ≤ 8 ∧ (∀ x ∈ ys, 0 ≤ x ∧ x < (N : Int)) := by
 obtain ⟨v, hs', e, hv0, hv1⟩ := src_pick l h 0 0 9 (by omega) (by omega) (by omega)
 obtain ⟨m, rfl⟩ := Int.eq_ofNat_of_zero_le hv0
 obtain ⟨ys, g1, g2, g3⟩ := B10Symbols_l0 l h N h2 hN m [] 1 hs' (by omega) (by simp; omega) (by simp)
 refine ⟨ys, ?_, by simp at g2; omega, g3⟩
 unfold spec_B10Symbols.f
 have e0 : spec_l00From.f l = some (l, 0, 0) := rfl
 refine Ev.bind (Ev.const e0) ?_
 exact Ev.bind (Ev.const e) g1
theorem b10At_eq (l : List Int) (h : ∀ x ∈ l, (Lit.int .u8 x).wf = true) (a n : Int) (ha : 0 ≤ a ∧ a ≤ 1000) (hn : 1 ≤ n) : ∃ t, laws_b10At.f l a n = some t ∧ 0 ≤ t ∧ t < n := by
 unfold laws_b10At.f
 by_cases h1 : n ≤ 1
 ·exact ⟨0, by rw [if_pos h1], by omega, by omega⟩
 have hn0 : ¬ n = 0 := by omega
 by_cases h2 : a < (l.length : Int)
 ·obtain ⟨m, rfl⟩ := Int.eq_ofNat_of_zero_le ha.1
  have hm : m < l.length := by omega
  have hx := wf_u8 (h _ (rd_mem hm))
  rw [if_neg h1, if_pos h2, if_pos ha.1, if_neg hn0, w64 (by omega) (by omega)]
  exact ⟨_, rfl, Int.tmod_nonneg _ hx.1, Int.tmod_lt_of_pos _ (by omega)⟩
 ·have e1 : wrap64 (a * 37) = a * 37 := w64 (by omega) (by omega)
  have e2 : wrap64 (a * 37 + 11) = a * 37 + 11 := w64 (by omega) (by omega)
  rw [if_neg h1, if_neg h2, if_neg hn0, e1, e2]
  exact ⟨_, rfl, Int.tmod_nonneg _ (by omega), Int.tmod_lt_of_pos _ (by omega)⟩
theorem b10Long_eq (l m : List Int) : ∃ b, laws_b10Long.f l m = some b := by
 unfold laws_b10Long.f
 split
 ·exact ⟨_, rfl⟩
 ·exact ⟨_, rfl⟩
theorem b10Has_l0 (xs : List Int) (z : Int) (hn : xs.length ≤ 1099511627776) : ∀ d n, n + d = xs.length → Ev (fun k => laws_b10Has.l0 k xs z (n : Int)) (decide (z ∈ xs.drop n)) := by
 intro d
 induction d with
 | zero =>
  intro n h
  have c1 : ¬ (n : Int) < (xs.length : Int) := by omega
  rw [List.drop_eq_nil_of_le (by omega)]
  apply Ev.succ
  simp only [laws_b10Has.l0]
  exact Ev.cond (fun h' => absurd h' c1) (fun _ => Ev.now _)
 | succ d ih =>
  intro n h
  have hl : n < xs.length := by omega
  have c1 : (n : Int) < (xs.length : Int) := by omega
  have c2 : (0 : Int) ≤ (n : Int) := by omega
  have h3 := ih (n + 1) (by omega)
  rw [drop_rd hl]
  apply Ev.succ
  simp only [laws_b10Has.l0, w64_succ (show n < 9223372036854775807 by omega)]
  refine Ev.cond (fun _ => ?_) (fun h' => absurd c1 h')
  refine Ev.cond (fun _ => ?_) (fun h' => absurd c2 h')
  refine Ev.cond (fun h1 => ?_) (fun h1 => ?_)
  ·rw [decide_eq_true (show z ∈ rd xs (n : Int) :: xs.drop (n + 1) by rw [h1]; exact List.mem_cons_self)]
   exact Ev.now _
  ·have e : decide (z ∈ rd xs (n : Int) :: xs.drop (n + 1)) = decide (z ∈ xs.drop (n + 1)) := decide_eq_decide.2 (by rw [List.mem_cons]; exact ⟨fun h2 => by rcases h2 with h2 | h2; exact absurd h2.symm h1; exact h2, fun h2 => .inr h2⟩)
   rw [e]; exact h3
theorem flN_spec (sent got : Nat → Bool) : ∀ (d n : Nat) (c lost place : Int), flN sent got (List.range' n d) c = (lost, place, true) →
 ∃ b : Nat, n ≤ b ∧ b < n + d ∧ place = (b : Int) ∧ sent b = true ∧ lost = c + (((List.range' n (b - n)).filter sent).length : Int) + 1
 | 0, n, c, lost, place, h => by
  have h : false = true := congrArg (fun t => t.2.2) h
  exact absurd h (by decide)
 | d + 1, n, c, lost, place, h => by
  rw [show List.range' n (d + 1) = n :: List.range' (n + 1) d from rfl] at h
  unfold flN at h
  by_cases hs : sent n = true
  ·rw [if_pos hs] at h
   by_cases hg : got n = true
   ·rw [if_pos hg] at h
    simp only [Prod.mk.injEq] at h
    refine ⟨n, Nat.le_refl _, by omega, h.2.1.symm, hs, ?_⟩
    rw [Nat.sub_self, ← h.1]
    show c + 1 = c + 0 + 1
    omega
   ·rw [if_neg hg] at h
    obtain ⟨b, h1, h2, h3, h4, h5⟩ := flN_spec sent got d (n + 1) (c + 1) lost place h
    refine ⟨b, by omega, by omega, h3, h4, ?_⟩
    rw [show b - n = (b - (n + 1)) + 1 by omega, show List.range' n (b - (n + 1) + 1) = n :: List.range' (n + 1) (b - (n + 1)) from rfl, List.filter_cons, if_pos hs, List.length_cons, h5]
    omega
  ·rw [if_neg hs] at h
   obtain ⟨b, h1, h2, h3, h4, h5⟩ := flN_spec sent got d (n + 1) c lost place h
   refine ⟨b, by omega, by omega, h3, h4, ?_⟩
   rw [show b - n = (b - (n + 1)) + 1 by omega, show List.range' n (b - (n + 1) + 1) = n :: List.range' (n + 1) (b - (n + 1)) from rfl, List.filter_cons, if_neg hs, h5]
def cntE (a p : Int) (xs : List Int) : Nat := (xs.filter fun x => decide (x > a ∧ x ≤ p)).length
theorem cntE_own (f : Nat → Bool) (a b m : Nat) (h1 : a < b) (h2 : b ≤ m) (hf : f b = true) : (cntE (a : Int) (b : Int) (((List.range' 1 m).filter f).map (fun b : Nat => (b : Int))) : Int) = 0 + (((List.range' (a + 1) (b - (a + 1))).filter f).length : Int) + 1 := by
 have e : List.range' 1 m = List.range' 1 a ++ (List.range' (a + 1) (b - (a + 1)) ++ (b :: List.range' (b + 1) (m - b))) := by
  have e1 : b :: List.range' (b + 1) (m - b) = List.range' b (m - b + 1) := rfl
  rw [e1]
  rw [show List.range' (a + 1) (b - (a + 1)) ++ List.range' b (m - b + 1) = List.range' (a + 1) (m - a) by
   have h := List.range'_append_1 (s := a + 1) (m := b - (a + 1)) (n := m - b + 1)
   rw [show a + 1 + (b - (a + 1)) = b by omega, show b - (a + 1) + (m - b + 1) = m - a by omega] at h
   exact h]
  have h := List.range'_append_1 (s := 1) (m := a) (n := m - a)
  rw [show 1 + a = a + 1 by omega, show a + (m - a) = m by omega] at h
  exact h.symm
 unfold cntE
 rw [List.filter_map, List.length_map, List.filter_filter, e, List.filter_append, List.filter_append, List.filter_cons]
 have f1 : (List.range' 1 a).filter (fun x => ((fun x : Int => decide (x > (a : Int) ∧ x ≤ (b : Int))) ∘ fun b : Nat => (b : Int)) x && f x) = [] := by
  rw [List.filter_eq_nil_iff]
  intro x hx
  have hx := List.mem_range'_1.1 hx
  rw [Function.comp, decide_eq_false (show ¬ ((x : Int) > (a : Int) ∧ (x : Int) ≤ (b : Int)) by omega)]; exact Bool.false_ne_true
 have f2 : (List.range' (b + 1) (m - b)).filter (fun x => ((fun x : Int => decide (x > (a : Int) ∧ x ≤ (b : Int))) ∘ fun b : Nat => (b : Int)) x && f x) = [] := by
  rw [List.filter_eq_nil_iff]
  intro x hx
  have hx := List.mem_range'_1.1 hx
  rw [Function.comp, decide_eq_false (show ¬ ((x : Int) > (a : Int) ∧ (x : Int) ≤ (b : Int)) by omega)]; exact Bool.false_ne_true
 have f3 : (List.range' (a + 1) (b - (a + 1))).filter (fun x => ((fun x : Int => decide (x > (a : Int) ∧ x ≤ (b : Int))) ∘ fun b : Nat => (b : Int)) x && f x) = (List.range' (a + 1) (b - (a + 1))).filter f := by
  refine List.filter_congr fun x hx => ?_
  have hx := List.mem_range'_1.1 hx
  rw [Function.comp, decide_eq_true (show ((x : Int) > (a : Int) ∧ (x : Int) ≤ (b : Int)) by omega), Bool.true_and]
 have f4 : (((fun x : Int => decide (x > (a : Int) ∧ x ≤ (b : Int))) ∘ fun b : Nat => (b : Int)) b && f b) = true := by
  rw [Function.comp, decide_eq_true (show ((b : Int) > (a : Int) ∧ (b : Int) ≤ (b : Int)) by omega), hf]; rfl
 rw [f1, f2, f3, if_pos f4, List.nil_append, List.length_append, List.length_singleton]
 omega
theorem sy_l3 (T : ByteArray) (E : List Int) (a p lost : Int) (hE : E.length ≤ 1000) (h1 : a < p) (h2 : p ≤ (T.size : Int)) (h3 : p ∈ E) (h4 : (cntE a p E : Int) = lost) (h5 : 1 ≤ lost) :
 ∀ d n c, n + d = E.length → c + cntE a p (E.drop n) = cntE a p E → Ev (fun k => laws_FnSynchronised.l3 k T E a lost p (c : Int) (n : Int)) true := by
 have hle : ∀ xs : List Int, cntE a p xs ≤ xs.length := fun xs => List.length_filter_le _ _
 intro d
 induction d with
 | zero =>
  intro n c h hc
  have c1 : ¬ (n : Int) < (E.length : Int) := by omega
  rw [List.drop_eq_nil_of_le (by omega)] at hc
  have hc : c + 0 = cntE a p E := hc
  have hb := b10Has_l0 E p (by omega) E.length 0 (by omega)
  rw [List.drop_zero, decide_eq_true h3] at hb
  have c2 : p > a := h1
  have c3 : (c : Int) = lost := by omega
  apply Ev.succ
  simp only [laws_FnSynchronised.l3]
  refine Ev.cond (fun h' => absurd h' c1) (fun _ => ?_)
  refine Ev.cond (fun _ => ?_) (fun h' => absurd c2 h')
  refine Ev.cond (fun _ => ?_) (fun h' => absurd h2 h')
  refine Ev.bind hb ?_
  refine Ev.cond (fun _ => ?_) (fun h' => absurd rfl h')
  refine Ev.cond (fun _ => ?_) (fun h' => absurd c3 h')
  rw [decide_eq_true (show lost ≥ 1 from h5)]
  exact Ev.now _
 | succ d ih =>
  intro n c h hc
  have hl : n < E.length := by omega
  have c1 : (n : Int) < (E.length : Int) := by omega
  have c2 : (0 : Int) ≤ (n : Int) := by omega
  have hcE := hle E
  rw [drop_rd hl] at hc
  unfold cntE at hc
  rw [List.filter_cons] at hc
  apply Ev.succ
  simp only [laws_FnSynchronised.l3, w64_succ (show n < 9223372036854775807 by omega)]
  refine Ev.cond (fun _ => ?_) (fun h' => absurd c1 h')
  refine Ev.cond (fun _ => ?_) (fun h' => absurd c2 h')
  refine Ev.cond (fun h6 => ?_) (fun h6 => ?_)
  ·refine Ev.cond (fun h7 => ?_) (fun h7 => ?_)
   ·rw [if_pos (decide_eq_true ⟨h6, h7⟩), List.length_cons] at hc
    have hc : c + 1 + cntE a p (E.drop (n + 1)) = cntE a p E := by unfold cntE; omega
    rw [w64_succ (show c < 9223372036854775807 by omega)]
    exact ih (n + 1) (c + 1) (by omega) hc
   ·rw [if_neg (by rw [decide_eq_true_iff]; exact fun h => h7 h.2)] at hc
    exact ih (n + 1) c (by omega) hc
  ·rw [if_neg (by rw [decide_eq_true_iff]; exact fun h => h6 h.1)] at hc
   exact ih (n + 1) c (by omega) hc
theorem sy_l2 (more : List Int) (hm : ∀ x ∈ more, (Lit.int .u8 x).wf = true) {ws : List ByteArray} (hc : codeB ws = true) (hcp : complB ws = true) (h2w : 2 ≤ ws.length) (hs2 : totS ws ≤ 1099511627776) (sy : List Int) (hsl : sy.length ≤ 8) (hsy : ∀ x ∈ sy, 0 ≤ x ∧ x < (ws.length : Int)) :
 ∀ d n (T : ByteArray), n + d = sy.length → T.size ≤ 12 * n → parB ws T.data.toList = true → catS ws (sy.drop n) T = catS ws sy (⟨#[]⟩ : ByteArray) → Ev (fun k => laws_FnSynchronised.l2 k more ws sy T (ownL ws T 1 T.size) (n : Int)) true := by
 have hp := (code_full hc hcp).1
 have hl := codeB_len hc
 intro d
 induction d with
 | zero =>
  intro n T h hT hpar hcat
  have c1 : ¬ (n : Int) < (sy.length : Int) := by omega
  rw [List.drop_eq_nil_of_le (by omega)] at hcat
  have hcat : T = catS ws sy (⟨#[]⟩ : ByteArray) := hcat
  apply Ev.succ
  simp only [laws_FnSynchronised.l2]
  refine Ev.cond (fun h' => absurd h' c1) (fun _ => ?_)
  refine Ev.cond (fun _ => Ev.now _) (fun h3 => ?_)
  have hT1 : 1 ≤ T.size := by
   rcases Nat.eq_zero_or_pos T.size with h4 | h4
   ·exact absurd (by rw [Lib.toList_data]; exact List.eq_nil_of_length_eq_zero (by rw [size_data, h4])) h3
   ·exact h4
  obtain ⟨z, e, hz0, hz1⟩ := b10At_eq more hm 1 (T.size : Int) (by omega) (by omega)
  refine Ev.bind (Ev.const e) ?_
  have hin : inAll 0 ((ws.length : Int) - 1) sy = true := inAll_of fun x hx => by have := hsy x hx; omega
  have hflr : flR ws sy z = flN (endAt ws T) (endAt ws (bent T z.toNat)) (List.range' (z.toNat + 1) (T.size - z.toNat)) 0 := by
   unfold flR
   rw [if_pos ⟨⟨hc, hcp⟩, h2w, by omega⟩, if_pos hin, ← hcat]
   unfold finR
   rw [if_pos ⟨by omega, hz0, by omega⟩]
  refine Ev.bind (FlipLossI_ev ws (by omega) hs2 sy (by omega) z (by omega) (by omega)) ?_
  refine Ev.bind (FlipLossS_ev ws (by omega) hs2 sy (by omega) z (by omega) (by omega)) ?_
  rw [bne_self_eq_false]
  refine Ev.cond (fun h' => absurd h' (by decide)) (fun _ => ?_)
  refine Ev.cond (fun h4 => ?_) (fun _ => Ev.now _)
  rcases hr : flR ws sy z with ⟨lost, place, t⟩
  have h4 : t = true := by rw [hr] at h4; exact h4
  subst h4
  rw [hr] at hflr
  obtain ⟨b, g1, g2, g3, g4, g5⟩ := flN_spec _ _ _ _ _ _ _ hflr.symm
  obtain ⟨a, rfl⟩ := Int.eq_ofNat_of_zero_le hz0
  rw [Int.toNat_natCast] at g1 g2 g5
  have hmem := (decide_eq_true_iff (p := (b : Int) ∈ ownL ws T 1 T.size)).1 (by rw [ownL_mem ws T b (by omega) (by omega)]; exact g4)
  have hcnt := cntE_own (endAt ws T) a b T.size (by omega) (by omega) g4
  have hEl := ownL_length ws T 1 T.size
  have h9 := sy_l3 T (ownL ws T 1 T.size) (a : Int) (b : Int) lost (by omega) (by omega) (by omega) hmem (by rw [g5]; exact hcnt) (by omega) (ownL ws T 1 T.size).length 0 0 (by omega) (by rw [List.drop_zero, Nat.zero_add])
  rw [g3]
  exact h9
 | succ d ih =>
  intro n T h hT hpar hcat
  have hl2 : n < sy.length := by omega
  have c1 : (n : Int) < (sy.length : Int) := by omega
  have c2 : (0 : Int) ≤ (n : Int) := by omega
  have hx := hsy _ (rd_mem hl2)
  rw [drop_rd hl2] at hcat
  obtain ⟨y, hy⟩ := Int.eq_ofNat_of_zero_le hx.1
  rw [hy] at hx hcat
  have hyl : y < ws.length := by omega
  have hw := codeB_at hc hyl
  have hEl := ownL_length ws T 1 T.size
  have c3 : T.size + (sn ws y).size ≤ 9223372036854775807 := by omega
  have c4 : (ownL ws T 1 T.size).length < 17592186044416 := by omega
  obtain ⟨s1, s2⟩ := ownL_snoc hp hpar (sn_mem hyl) hw.1.1
  have h3 := ih (n + 1) (T ++ sn ws y) (by omega) (by rw [ByteArray.size_append]; omega) s2 hcat
  rw [s1] at h3
  apply Ev.succ
  simp only [laws_FnSynchronised.l2, hy, sr_nat, w64_succ (show n < 9223372036854775807 by omega)]
  refine Ev.cond (fun _ => ?_) (fun h' => absurd c1 h')
  refine Ev.cond (fun _ => ?_) (fun h' => absurd c2 h')
  refine Ev.cond (fun _ => ?_) (fun h' => absurd hx.1 h')
  refine Ev.cond (fun _ => ?_) (fun h' => absurd hx.2 h')
  refine Ev.cond (fun _ => ?_) (fun h' => absurd c3 h')
  exact Ev.cond (fun _ => h3) (fun h' => absurd c4 h')
theorem sy_l1 (more : List Int) (N : Int) {ws : List ByteArray} (hc : codeB ws = true) (hcp : complB ws = true) (hs2 : totS ws ≤ 1099511627776) (sync : ByteArray) (hz : sync.size ≤ 300) (hb : ∀ c ∈ sync.data.toList, c = 48 ∨ c = 49)
 (hr : ∀ x ∈ rdrs ws, runL ws x sync.data.toList = (⟨#[]⟩ : ByteArray)) (i : Nat) (hi : i < ws.length) (hn : Ev (fun k => laws_FnSynchronised.l0 k more N ws sync true ((i + 1 : Nat) : Int)) true) :
 ∀ d n, n + d = (sn ws i).size → Ev (fun k => laws_FnSynchronised.l1 k more N ws sync true (i : Int) (n : Int)) true := by
 have hp := (code_full hc hcp).1
 have hl := codeB_len hc
 have hw := codeB_at hc hi
 have c1 : (0 : Int) ≤ (i : Int) := by omega
 have c2 : (i : Int) < (ws.length : Int) := by omega
 intro d
 induction d with
 | zero =>
  intro n h
  have c3 : ¬ (n : Int) < ((sn ws i).size : Int) := by omega
  apply Ev.succ
  simp only [laws_FnSynchronised.l1, sr_nat, w64_succ (show i < 9223372036854775807 by omega)]
  refine Ev.cond (fun _ => ?_) (fun h' => absurd c1 h')
  refine Ev.cond (fun _ => ?_) (fun h' => absurd c2 h')
  exact Ev.cond (fun h' => absurd h' c3) (fun _ => hn)
 | succ d ih =>
  intro n h
  have c3 : (n : Int) < ((sn ws i).size : Int) := by omega
  have c4 : (0 : Int) ≤ (n : Int) := by omega
  have c5 : (n : Int) ≤ ((sn ws i).size : Int) := by omega
  have ez : ((sn ws i).extract 0 n).size = n := by rw [ByteArray.size_extract]; omega
  have c6 : ((sn ws i).extract 0 n).size + sync.size ≤ 9223372036854775807 := by omega
  have hnl : n < (sn ws i).data.toList.length := by rw [size_data]; omega
  have hx : (sn ws i).extract 0 n ∈ rdrs ws := by
   rw [rdrs_mem]
   refine ⟨(sn ws i).data.toList[n], (sn ws i).data.toList.drop (n + 1), ?_⟩
   rw [ext_data, List.drop_zero, Nat.sub_zero, ← List.drop_eq_getElem_cons hnl, List.take_append_drop]
   exact dW_mem'.2 (sn_mem hi)
  have hd : ((sn ws i).extract 0 n ++ sync).data.toList = ((sn ws i).extract 0 n).data.toList ++ sync.data.toList := by rw [ByteArray.data_append, Array.toList_append]
  have hpar : parB ws ((sn ws i).extract 0 n ++ sync).data.toList = true := by
   unfold parB
   rw [hd, run_reader hp hx, hr _ hx, decide_eq_true rfl]
  have hbits : bitsB ((sn ws i).extract 0 n ++ sync) = true := by
   unfold bitsB
   rw [Bool.and_eq_true, decide_eq_true_iff, hd, List.all_append, Bool.and_eq_true, ByteArray.size_append]
   refine ⟨⟨?_, ?_⟩, by omega⟩
   ·rw [List.all_eq_true]
    intro c hcm
    have h5 := List.all_eq_true.1 hw.2.1 c
    rw [ext_data] at hcm
    exact h5 (List.mem_of_mem_drop (List.mem_of_mem_take hcm))
   ·rw [List.all_eq_true]
    intro c hcm
    unfold isBitB
    rw [Bool.or_eq_true, beq_iff_eq, beq_iff_eq]; exact hb c hcm
  have h3 := ih (n + 1) (by omega)
  apply Ev.succ
  simp only [laws_FnSynchronised.l1, sr_nat, Int.toNat_natCast, w64_succ (show n < 9223372036854775807 by omega)]
  refine Ev.cond (fun _ => ?_) (fun h' => absurd c1 h')
  refine Ev.cond (fun _ => ?_) (fun h' => absurd c2 h')
  refine Ev.cond (fun _ => ?_) (fun h' => absurd c3 h')
  refine Ev.cond (fun _ => ?_) (fun h' => absurd c4 h')
  refine Ev.cond (fun _ => ?_) (fun h' => absurd c5 h')
  refine Ev.cond (fun _ => ?_) (fun h' => absurd c6 h')
  refine Ev.bind (ParsesOf_ev hc hp hs2 _ hbits hpar) ?_
  refine Ev.cond (fun _ => ?_) (fun h' => absurd rfl h')
  exact Ev.cond (fun _ => h3) (fun h' => absurd rfl h')
theorem sy_tail (more : List Int) (hm : ∀ x ∈ more, (Lit.int .u8 x).wf = true) {ws : List ByteArray} (hc : codeB ws = true) (hcp : complB ws = true) (h2w : 2 ≤ ws.length) (h8 : ws.length ≤ 8) (hs2 : totS ws ≤ 1099511627776) (sync : ByteArray) (one : Bool) (i : Int) :
 Ev (fun k => laws_FnSynchronised.j2 k more (ws.length : Int) ws sync one i false) true := by
 obtain ⟨sy, g1, g2, g3⟩ := B10Symbols_ev more hm ws.length h2w h8
 have h := sy_l2 more hm hc hcp h2w hs2 sy g2 g3 sy.length 0 (⟨#[]⟩ : ByteArray) (by omega) (Nat.le_refl _) (par_nil ws) (by rw [List.drop_zero])
 apply Ev.succ
 simp only [laws_FnSynchronised.j2]
 refine Ev.cond (fun h' => absurd h' (by decide)) (fun _ => ?_)
 exact Ev.bind g1 h
theorem sy_l0 (more : List Int) (hm : ∀ x ∈ more, (Lit.int .u8 x).wf = true) {ws : List ByteArray} (hc : codeB ws = true) (hcp : complB ws = true) (h2w : 2 ≤ ws.length) (h8 : ws.length ≤ 8) (hs2 : totS ws ≤ 1099511627776) (sync : ByteArray) (hz : sync.size ≤ 300) (hb : ∀ c ∈ sync.data.toList, c = 48 ∨ c = 49)
 (hr : ∀ x ∈ rdrs ws, runL ws x sync.data.toList = (⟨#[]⟩ : ByteArray)) : ∀ d i, i + d = ws.length → Ev (fun k => laws_FnSynchronised.l0 k more (ws.length : Int) ws sync true (i : Int)) true := by
 intro d
 induction d with
 | zero =>
  intro i h
  have ht := sy_tail more hm hc hcp h2w h8 hs2 sync true (i : Int)
  apply Ev.succ
  simp only [laws_FnSynchronised.l0]
  refine Ev.cond (fun _ => ?_) (fun h' => absurd (by trivial) h')
  rw [decide_eq_false (show ¬ (i : Int) < (ws.length : Int) by omega)]
  exact ht
 | succ d ih =>
  intro i h
  have h3 := sy_l1 more (ws.length : Int) hc hcp hs2 sync hz hb hr i (by omega) (ih (i + 1) (by omega)) (sn ws i).size 0 (by omega)
  apply Ev.succ
  simp only [laws_FnSynchronised.l0]
  refine Ev.cond (fun _ => ?_) (fun h' => absurd (by trivial) h')
  rw [decide_eq_true (show (i : Int) < (ws.length : Int) by omega)]
  apply Ev.succ
  simp only [laws_FnSynchronised.j2]
  exact Ev.cond (fun _ => h3) (fun h' => absurd (by trivial) h')
theorem FnSynchronised : laws_FnSynchronised.Pure := by
 intro code more hm0 hz0 hw0 hm1 hz1 hw1
 refine Ev.rounds ?_
 unfold laws_FnSynchronised.f
 obtain ⟨bl, ebl⟩ := b10Long_eq code more
 refine Ev.bind (Ev.const ebl) ?_
 refine Ev.cond (fun _ => Ev.now _) (fun _ => ?_)
 obtain ⟨t, et, ht0, ht1⟩ := b10At_eq code hw0 0 7 (by omega) (by omega)
 refine Ev.bind (Ev.const et) ?_
 obtain ⟨m, rfl⟩ := Int.eq_ofNat_of_zero_le ht0
 have e2 : wrap64 (2 + (m : Int)) = ((2 + m : Nat) : Int) := by rw [w64 (by omega) (by omega)]; omega
 rw [e2]
 obtain ⟨ws, g1, g2⟩ := B10Complete_ev code hw0 (2 + m) (by omega) (by omega)
 refine Ev.bind g1 ?_
 obtain ⟨hc, hcp⟩ := g2.code (by omega) (by omega)
 have hl := g2.len
 have hs2 : totS ws ≤ 1099511627776 := by
  have : ∀ xs : List ByteArray, (∀ w ∈ xs, w.size ≤ 12) → totS xs ≤ 12 * xs.length := fun xs => by
   induction xs with
   | nil => intro _; exact Nat.le_refl _
   | cons x xs ih =>
    intro h
    have h1 := h x List.mem_cons_self
    have h2 := ih (fun w hw => h w (List.mem_cons_of_mem _ hw))
    unfold totS
    rw [List.length_cons]; omega
  have := this ws (fun w hw => by have := g2.size w hw; omega)
  omega
 obtain ⟨r, r1, r2, r3⟩ := Sync_both ws (by omega) hs2
 refine Ev.bind r2 (Ev.bind r1 ?_)
 rw [bne_self_eq_false]
 refine Ev.cond (fun h' => absurd h' (by decide)) (fun _ => ?_)
 refine Ev.bind (IsCompleteI_ev ws (by omega) hs2) ?_
 rw [hc, hcp]
 refine Ev.cond (fun _ => ?_) (fun h' => absurd rfl h')
 obtain ⟨sync, one⟩ := r
 have hfew := rdrs_few hc hcp
 rcases one with _ | _
 ·refine Ev.cond (fun h' => absurd (show false = true from h') (by decide)) (fun _ => ?_)
  rw [← hl]
  apply Ev.succ
  simp only [laws_FnSynchronised.j0]
  refine Ev.cond (fun h' => absurd h' (by decide)) (fun _ => ?_)
  apply Ev.succ
  simp only [laws_FnSynchronised.l0]
  refine Ev.cond (fun h' => absurd h' (by decide)) (fun _ => ?_)
  exact sy_tail more hw1 hc hcp (by omega) (by omega) hs2 sync false 0
 ·refine Ev.cond (fun _ => ?_) (fun h' => absurd rfl h')
  obtain ⟨⟨q1, q2⟩, q3, q4⟩ := r3 rfl
  have q1 : 1 ≤ sync.size := q1
  have q2 : sync.size ≤ 2 ^ (rdrs ws).length := q2
  have hq : (2 : Nat) ^ (rdrs ws).length ≤ 2 ^ 7 := Nat.pow_le_pow_right (by decide) (by omega)
  have h27 : (2 : Nat) ^ 7 = 128 := by decide
  have hne : ((sync.size : Int) == 0) = false := by rw [beq_eq_false_iff_ne]; omega
  rw [hne, ← hl]
  have hfin := sy_l0 more hw1 hc hcp (by omega) (by omega) hs2 sync (by omega) q3 q4 ws.length 0 (by omega)
  apply Ev.succ
  simp only [laws_FnSynchronised.j0]
  exact Ev.cond (fun h' => absurd h' (by decide)) (fun _ => hfin)
end Go.Proofs.YtabppnjmdlaohaaGreatDoor.Pure
