/- For all coins the program's SplitRun answers what the reference's does, and hands out memory of its own. -/
import Derived.Test.YtohdepanfnaddaaDoorQFnExactSplitRunx6
import Derived.Test.YtohdepanfnaddaaDoorBase
namespace Go.Proofs.YtohdepanfnaddaaDoor.Pure
open Go.RowKit Go.Proofs.YtohdepanfnaddaaDoor.QFnExactSplitRun Go.Proofs.YtohdepanfnaddaaDoor.Base Go.Proofs.YtohdepanfnaddaaDoorW.PrintWords Go.Proofs.YtohdepanfnaddaaDoorW.PrintLast Go.Proofs.YtohdepanfnaddaaDoorW.PrintMore
set_option linter.unusedVariables false
set_option linter.unusedSimpArgs false

/-! markInt64S -/
theorem markInt64S_l0 (m : Int) (hm : 0 ≤ m) (hm2 : m ≤ 4611686018427387904) : ∀ (d : Nat) (ws xs : List Int) (n : Nat), ws.length = n → xs.length = d → n + d ≤ 1099511627776 → Ev (fun k => laws_markInt64S.l0 k (ws ++ xs) (m + n) (n : Int)) (m + n + d, ws ++ upFrom (m + n) d) := by
  intro d
  induction d with
  | zero =>
    intro ws xs n h hx hn
    apply Ev.succ
    obtain rfl : xs = [] := List.eq_nil_of_length_eq_zero hx
    have h1 : ¬ ((n : Int) < ((ws ++ ([] : List Int)).length : Int)) := by simp; omega
    simp only [laws_markInt64S.l0, h1, if_false, upFrom]
    exact Ev.of (fun _ => LeO.refl _) (k := 0) (by simp)
  | succ d ih =>
    intro ws xs n h hx hn
    apply Ev.succ
    obtain ⟨x, xs, rfl⟩ : ∃ x ys, xs = x :: ys := by
      cases xs with
      | nil => simp at hx
      | cons x ys => exact ⟨x, ys, rfl⟩
    have h1 : ((n : Int) < ((ws ++ x :: xs).length : Int)) := by simp; omega
    have h2 : (0 : Int) ≤ (n : Int) := by omega
    have h3 := ih (ws ++ [m + n]) xs (n + 1) (by simp [h]) (by simpa using hx) (by omega)
    have h5 : wrap64 (m + n + 1) = m + ((n + 1 : Nat) : Int) := by rw [w64 (by omega) (by omega)]; omega
    simp only [laws_markInt64S.l0, h1, h2, if_true, Int.toNat_natCast, set_mid _ _ _ _ _ h, h5, w64_succ (show n < 9223372036854775807 by omega)]
    have e1 : ws ++ [m + (n : Int)] ++ xs = ws ++ (m + n) :: xs := by simp
    have e2 : ws ++ [m + (n : Int)] ++ upFrom (m + ((n + 1 : Nat) : Int)) d = ws ++ upFrom (m + n) (d + 1) := by
      rw [upFrom, List.append_assoc]
      have e3 : m + ((n + 1 : Nat) : Int) = m + n + 1 := by omega
      rw [e3]; rfl
    have e4 : m + ((n + 1 : Nat) : Int) + (d : Int) = m + n + ((d + 1 : Nat) : Int) := by omega
    rw [e1, e2, e4] at h3
    exact h3
theorem markInt64S_ev (xs : List Int) (m : Int) (hm : 0 ≤ m) (hm2 : m ≤ 4611686018427387904) (hn : xs.length ≤ 1099511627776) : Ev (fun k => laws_markInt64S.f k xs m) (m + (xs.length : Int), upFrom m xs.length) := by
  have h := markInt64S_l0 m hm hm2 xs.length [] xs 0 rfl rfl (by omega)
  have e : m + ((0 : Nat) : Int) = m := by omega
  rw [e] at h
  exact h

/-! eqInt64S -/
theorem eqInt64S_l0 (xs ys : List Int) (hl : xs.length = ys.length) (hn : xs.length ≤ 1099511627776) : ∀ d n, n + d = xs.length → Ev (fun k => laws_eqInt64S.l0 k xs ys (n : Int)) (decide (xs.drop n = ys.drop n)) := by
  intro d
  induction d with
  | zero =>
    intro n h
    apply Ev.succ
    have h1 : ¬ ((n : Int) < (xs.length : Int)) := by omega
    have h2 : xs.drop n = [] := List.drop_eq_nil_of_le (by omega)
    have h3 : ys.drop n = [] := List.drop_eq_nil_of_le (by omega)
    simp only [laws_eqInt64S.l0, h1, if_false, h2, h3, decide_true]
    exact Ev.now true
  | succ d ih =>
    intro n h
    apply Ev.succ
    have h1 : (n : Int) < (xs.length : Int) := by omega
    have h1' : (n : Int) < (ys.length : Int) := by omega
    have h2 : (0 : Int) ≤ (n : Int) := by omega
    have h3 := ih (n + 1) (by omega)
    rw [drop_rd (show n < xs.length by omega), drop_rd (show n < ys.length by omega)]
    simp only [laws_eqInt64S.l0, h1, h1', h2, if_true, w64_succ (show n < 9223372036854775807 by omega), List.cons.injEq]
    by_cases hc : rd xs (n : Int) = rd ys (n : Int)
    · simp only [hc, if_true, true_and]; exact h3
    · simp only [hc, if_false, false_and, decide_false]; exact Ev.now false
theorem eqInt64S_ev (xs ys : List Int) (hn : xs.length ≤ 1099511627776) : Ev (fun k => laws_eqInt64S.f k xs ys) (decide (xs = ys)) := by
  unfold laws_eqInt64S.f
  by_cases hl : xs.length = ys.length
  · have h1 : (xs.length : Int) = (ys.length : Int) := by omega
    simp only [h1, if_true]
    have h := eqInt64S_l0 xs ys hl hn xs.length 0 (by omega)
    exact h
  · have h1 : ¬ (xs.length : Int) = (ys.length : Int) := by omega
    have h2 : ¬ xs = ys := fun h => hl (by rw [h])
    simp only [h1, if_false, h2, decide_false]
    exact Ev.now false
theorem eqInt64S_same (xs : List Int) (hn : xs.length ≤ 1099511627776) : Ev (fun k => laws_eqInt64S.f k xs xs) true := by
  have h := eqInt64S_ev xs xs hn
  rw [decide_eq_true rfl] at h
  exact h

/-! heldInt64S -/
theorem heldInt64S_l0 (m : Int) (hm : 0 ≤ m) (hm2 : m ≤ 4611686018427387904) : ∀ (d : Nat) (ws : List Int) (n : Nat), ws.length = n → n + d ≤ 1099511627776 → Ev (fun k => laws_heldInt64S.l0 k (ws ++ upFrom (m + n) d) (m + n) (n : Int)) (m + n + d) := by
  intro d
  induction d with
  | zero =>
    intro ws n h hn
    apply Ev.succ
    have h1 : ¬ ((n : Int) < ((ws ++ upFrom (m + n) 0).length : Int)) := by simp [upFrom]; omega
    simp only [laws_heldInt64S.l0, h1, if_false]
    exact Ev.of (fun _ => LeO.refl _) (k := 0) (by simp)
  | succ d ih =>
    intro ws n h hn
    apply Ev.succ
    have h1 : ((n : Int) < ((ws ++ upFrom (m + n) (d + 1)).length : Int)) := by simp [upFrom_length]; omega
    have h2 : (0 : Int) ≤ (n : Int) := by omega
    have h3 := ih (ws ++ [m + n]) (n + 1) (by simp [h]) (by omega)
    have h5 : wrap64 (m + n + 1) = m + ((n + 1 : Nat) : Int) := by rw [w64 (by omega) (by omega)]; omega
    have h6 : rd (ws ++ upFrom (m + n) (d + 1)) (n : Int) = m + n := by
      rw [rd_nat, List.getD_eq_getElem?_getD, List.getElem?_append_right (by omega), h, Nat.sub_self]; rfl
    simp only [laws_heldInt64S.l0, h1, h2, if_true, h5, h6, w64_succ (show n < 9223372036854775807 by omega)]
    have e2 : ws ++ [m + (n : Int)] ++ upFrom (m + ((n + 1 : Nat) : Int)) d = ws ++ upFrom (m + n) (d + 1) := by
      rw [upFrom, List.append_assoc]
      have e3 : m + ((n + 1 : Nat) : Int) = m + n + 1 := by omega
      rw [e3]; rfl
    have e4 : m + ((n + 1 : Nat) : Int) + (d : Int) = m + n + ((d + 1 : Nat) : Int) := by omega
    rw [e2, e4] at h3
    exact h3
theorem heldInt64S_ev (m : Int) (l : Nat) (hm : 0 ≤ m) (hm2 : m ≤ 4611686018427387904) (hn : l ≤ 1099511627776) : Ev (fun k => laws_heldInt64S.f k (upFrom m l) m) (m + (l : Int)) := by
  have h := heldInt64S_l0 m hm hm2 l [] 0 rfl (by omega)
  have e : m + ((0 : Nat) : Int) = m := by omega
  rw [e] at h
  exact h

/-! strL -/
/-- A text of a list, by its place. -/
def sn (xs : List ByteArray) (n : Nat) : ByteArray := xs.getD n ByteArray.empty
theorem sr_nat (xs : List ByteArray) (n : Nat) : rdOf ByteArray.empty xs (n : Int) = sn xs n := by unfold rdOf sn; rw [Int.toNat_natCast]
theorem sn_get {xs : List ByteArray} {n : Nat} (h : n < xs.length) : sn xs n = xs[n] := by
  unfold sn
  rw [List.getD_eq_getElem?_getD, List.getElem?_eq_getElem h]; rfl
theorem sn_mem {xs : List ByteArray} {n : Nat} (h : n < xs.length) : sn xs n ∈ xs := by rw [sn_get h]; exact List.getElem_mem h
theorem drop_sn {xs : List ByteArray} {n : Nat} (h : n < xs.length) : xs.drop n = sn xs n :: xs.drop (n + 1) := by
  rw [sn_get h, List.drop_eq_getElem_cons h]
theorem take_sn {xs : List ByteArray} {n : Nat} (h : n < xs.length) : xs.take (n + 1) = xs.take n ++ [sn xs n] := by
  rw [sn_get h, List.take_succ_eq_append_getElem h]
/-- The sizes of texts together. -/
def totS : List ByteArray → Nat
  | [] => 0
  | x :: r => x.size + totS r
theorem totS_mem {xs : List ByteArray} {x : ByteArray} (h : x ∈ xs) : x.size ≤ totS xs := by
  induction xs with
  | nil => exact absurd h (by simp)
  | cons y xs ih =>
    unfold totS
    rcases List.mem_cons.1 h with rfl | h
    · omega
    · have := ih h; omega
theorem sn_size (xs : List ByteArray) (n : Nat) : (sn xs n).size ≤ totS xs := by
  by_cases h : n < xs.length
  · exact totS_mem (sn_mem h)
  · have e : sn xs n = ByteArray.empty := by
      unfold sn
      rw [List.getD_eq_getElem?_getD, List.getElem?_eq_none (by omega)]; rfl
    rw [e]; exact Nat.zero_le _
theorem bytes_ext {a b : ByteArray} (h : a.toList = b.toList) : a = b := by
  rw [Lib.toList_data, Lib.toList_data] at h
  exact ByteArray.ext (Array.ext' h)
instance decMemS : (x : ByteArray) → (xs : List ByteArray) → Decidable (x ∈ xs)
  | x, [] => isFalse (by simp)
  | x, y :: r => if h : x = y then isTrue (by rw [h]; exact List.mem_cons_self) else match decMemS x r with
    | isTrue h2 => isTrue (List.mem_cons_of_mem _ h2)
    | isFalse h2 => isFalse (fun h3 => by rcases List.mem_cons.1 h3 with h3 | h3; exact h h3; exact h2 h3)

/-! markS -/
theorem markText_l0 : ∀ (u : Nat) (out : ByteArray), out.size + u ≤ 2199023255552 → ∃ t, Ev (fun k => laws_markText.l0 k (u : Int) out) t := by
  intro u
  induction u using Nat.strongRecOn with
  | _ u ih =>
    intro out ho
    by_cases h0 : u = 0
    · subst h0
      have c1 : ¬ ((0 : Nat) : Int) > 0 := by omega
      have c2 : 1 + out.size ≤ 9223372036854775807 := by omega
      refine ⟨(⟨#[109]⟩ : ByteArray) ++ out, ?_⟩
      apply Ev.succ
      simp only [laws_markText.l0]
      refine Ev.cond (fun h' => absurd h' c1) (fun _ => ?_)
      exact Ev.cond (fun _ => Ev.now _) (fun h' => absurd c2 h')
    · have c1 : (u : Int) > 0 := by omega
      have ed : Int.tdiv (u : Int) 10 = ((u / 10 : Nat) : Int) := rfl
      have ew : wrap64 ((u / 10 : Nat) : Int) = ((u / 10 : Nat) : Int) := w64 (by omega) (by omega)
      have hz : (strOfNums [(wrap64 (48 + (Int.tmod (u : Int) 10))) % 256]).size = 1 := by
        rw [← size_data]; rfl
      have c2 : (strOfNums [(wrap64 (48 + (Int.tmod (u : Int) 10))) % 256]).size + out.size ≤ 9223372036854775807 := by rw [hz]; omega
      obtain ⟨t, ht⟩ := ih (u / 10) (by omega) (strOfNums [(wrap64 (48 + (Int.tmod (u : Int) 10))) % 256] ++ out) (by rw [ByteArray.size_append, hz]; omega)
      refine ⟨t, ?_⟩
      apply Ev.succ
      simp only [laws_markText.l0, ed, ew]
      refine Ev.cond (fun _ => ?_) (fun h' => absurd c1 h')
      refine Ev.bind (Ev.const rfl) ?_
      exact Ev.cond (fun _ => ht) (fun h' => absurd c2 h')
theorem markText_some (m : Nat) : ∃ t, m ≤ 1099511627776 → Ev (fun k => laws_markText.f k (m : Int)) t := by
  by_cases hm : m ≤ 1099511627776
  · unfold laws_markText.f
    by_cases h0 : (m : Int) ≤ 0
    · exact ⟨_, fun _ => Ev.cond (fun _ => Ev.now _) (fun h' => absurd h0 h')⟩
    · obtain ⟨t, ht⟩ := markText_l0 m (⟨#[]⟩ : ByteArray) (by rw [show (⟨#[]⟩ : ByteArray).size = 0 from rfl]; omega)
      exact ⟨t, fun _ => Ev.cond (fun h' => absurd h' h0) (fun _ => ht)⟩
  · exact ⟨ByteArray.empty, fun h => absurd h hm⟩
/-- The text of a mark. -/
noncomputable def mkT (m : Nat) : ByteArray := Classical.choose (markText_some m)
theorem markText_ev (m : Nat) (hm : m ≤ 1099511627776) : Ev (fun k => laws_markText.f k (m : Int)) (mkT m) := Classical.choose_spec (markText_some m) hm
/-- Texts of marks from a number on. -/
noncomputable def mkS (m : Nat) : Nat → List ByteArray
  | 0 => []
  | n + 1 => mkT m :: mkS (m + 1) n
theorem mkS_length : ∀ (n m : Nat), (mkS m n).length = n
  | 0, _ => rfl
  | n + 1, m => by rw [mkS, List.length_cons, mkS_length]
theorem markS_l0 : ∀ (xs ws : List ByteArray) (m n : Nat), ws.length = n → m + xs.length ≤ 1099511627776 → n + xs.length ≤ 1099511627776 →
    Ev (fun k => laws_markStringS.l0 k (ws ++ xs) (m : Int) (n : Int)) (((m + xs.length : Nat) : Int), ws ++ mkS m xs.length) := by
  intro xs
  induction xs with
  | nil =>
    intro ws m n hw hm hn
    have c1 : ¬ (n : Int) < ((ws ++ []).length : Int) := by rw [List.append_nil]; omega
    apply Ev.succ
    simp only [laws_markStringS.l0]
    exact Ev.cond (fun h' => absurd h' c1) (fun _ => Ev.now _)
  | cons x xs ih =>
    intro ws m n hw hm hn
    rw [List.length_cons] at hm hn
    have c1 : (n : Int) < ((ws ++ x :: xs).length : Int) := by rw [List.length_append, List.length_cons]; omega
    have c2 : (0 : Int) ≤ (n : Int) := by omega
    have h3 := ih (ws ++ [mkT m]) (m + 1) (n + 1) (by rw [List.length_append, List.length_singleton]; omega) (by omega) (by omega)
    rw [List.append_assoc, List.append_assoc, List.singleton_append, List.singleton_append] at h3
    have e : (ws ++ x :: xs).set n (mkT m) = ws ++ mkT m :: xs := set_mid _ _ _ _ _ hw
    rw [List.length_cons, mkS, show m + (xs.length + 1) = m + 1 + xs.length by omega]
    apply Ev.succ
    simp only [laws_markStringS.l0, Int.toNat_natCast, w64_succ (show n < 9223372036854775807 by omega), w64_succ (show m < 9223372036854775807 by omega)]
    refine Ev.cond (fun _ => ?_) (fun h' => absurd c1 h')
    refine Ev.bind (markText_ev m (by omega)) ?_
    rw [e]
    exact Ev.cond (fun _ => h3) (fun h' => absurd c2 h')
theorem markS_ev (xs : List ByteArray) (m : Nat) (hm : m + xs.length ≤ 1099511627776) : Ev (fun k => laws_markStringS.f k xs (m : Int)) (((m + xs.length : Nat) : Int), mkS m xs.length) := markS_l0 xs [] m 0 rfl hm (by omega)

/-! szStringS -/
theorem szS_l0 (xs : List ByteArray) (hs : ∀ x ∈ xs, x.size ≤ 9223372036854775807) (hn : xs.length ≤ 1099511627776) : ∀ (d n : Nat) (left : Int), n + d = xs.length → 0 ≤ left → left ≤ 1048576 → ∃ v : Int, Ev (fun k => laws_szStringS.l0 k xs left (n : Int)) v ∧ (v = -1 ∨ (0 ≤ v ∧ v + (totS (xs.drop n) : Int) = left)) := by
  intro d
  induction d with
  | zero =>
    intro n left h h0 h1
    have c1 : ¬ (n : Int) < (xs.length : Int) := by omega
    refine ⟨left, ?_, .inr ⟨h0, ?_⟩⟩
    · apply Ev.succ
      simp only [laws_szStringS.l0]
      exact Ev.cond (fun h' => absurd h' c1) (fun _ => Ev.now _)
    · rw [List.drop_eq_nil_of_le (by omega)]
      simp [totS]
  | succ d ih =>
    intro n left h h0 h1
    have hl : n < xs.length := by omega
    have c1 : (n : Int) < (xs.length : Int) := by omega
    have c2 : (0 : Int) ≤ (n : Int) := by omega
    have hb := hs _ (sn_mem hl)
    have e : wrap64 (left - ((sn xs n).size : Int)) = left - ((sn xs n).size : Int) := w64 (by omega) (by omega)
    by_cases hc : left - ((sn xs n).size : Int) < 0
    · refine ⟨-1, ?_, .inl rfl⟩
      apply Ev.succ
      simp only [laws_szStringS.l0, sr_nat, e]
      refine Ev.cond (fun _ => ?_) (fun h' => absurd c1 h')
      refine Ev.cond (fun _ => ?_) (fun h' => absurd c2 h')
      exact Ev.cond (fun _ => Ev.now _) (fun h' => absurd hc h')
    · obtain ⟨v, hv, hp⟩ := ih (n + 1) (left - ((sn xs n).size : Int)) (by omega) (by omega) (by omega)
      refine ⟨v, ?_, ?_⟩
      · apply Ev.succ
        simp only [laws_szStringS.l0, sr_nat, e, w64_succ (show n < 9223372036854775807 by omega)]
        refine Ev.cond (fun _ => ?_) (fun h' => absurd c1 h')
        refine Ev.cond (fun _ => ?_) (fun h' => absurd c2 h')
        exact Ev.cond (fun h' => absurd h' hc) (fun _ => hv)
      · rcases hp with hp | ⟨hp, hq⟩
        · exact .inl hp
        · refine .inr ⟨hp, ?_⟩
          rw [drop_sn hl]
          unfold totS
          omega
theorem szS_ev (xs : List ByteArray) (hs : ∀ x ∈ xs, x.size ≤ maxLen) (hn : xs.length ≤ maxLen) (left : Int) (h0 : 0 ≤ left) (h1 : left ≤ 1048576) : ∃ v : Int, Ev (fun k => laws_szStringS.f k xs left) v ∧ (v = -1 ∨ (0 ≤ v ∧ v + (xs.length : Int) + (totS xs : Int) = left)) := by
  have hmx : maxLen ≤ 9223372036854775807 := by decide
  have e : wrap64 (left - (xs.length : Int)) = left - (xs.length : Int) := w64 (by omega) (by omega)
  unfold laws_szStringS.f
  simp only [e]
  by_cases hc : left - (xs.length : Int) < 0
  · exact ⟨-1, Ev.cond (fun _ => Ev.now _) (fun h' => absurd hc h'), .inl rfl⟩
  · obtain ⟨v, hv, hp⟩ := szS_l0 xs (fun x hx => Nat.le_trans (hs x hx) hmx) (by omega) xs.length 0 (left - (xs.length : Int)) (by omega) (by omega) (by omega)
    refine ⟨v, Ev.cond (fun h' => absurd h' hc) (fun _ => hv), ?_⟩
    rcases hp with hp | ⟨hp, hq⟩
    · exact .inl hp
    · rw [List.drop_zero] at hq
      exact .inr ⟨hp, by omega⟩

/-! toStringS -/
theorem toStringS_l0 (xs : List ByteArray) (hn : xs.length ≤ 1099511627776) : ∀ d n, n + d = xs.length → Ev (fun k => laws_toStringS.l0 k xs (xs.take n ++ List.replicate d (⟨#[]⟩ : ByteArray)) (n : Int)) xs := by
  intro d
  induction d with
  | zero =>
    intro n h
    have c1 : ¬ (n : Int) < (xs.length : Int) := by omega
    rw [List.take_of_length_le (by omega), List.replicate_zero, List.append_nil]
    apply Ev.succ
    simp only [laws_toStringS.l0]
    exact Ev.cond (fun h' => absurd h' c1) (fun _ => Ev.now _)
  | succ d ih =>
    intro n h
    have hl : n < xs.length := by omega
    have c1 : (n : Int) < (xs.length : Int) := by omega
    have c2 : (0 : Int) ≤ (n : Int) := by omega
    have h3 := ih (n + 1) (by omega)
    have c4 : (n : Int) < ((xs.take n ++ List.replicate (d + 1) (⟨#[]⟩ : ByteArray)).length : Int) := by
      simp only [List.length_append, List.length_take, List.length_replicate]; omega
    have h5 : (xs.take n ++ List.replicate (d + 1) (⟨#[]⟩ : ByteArray)).set n (sn xs n) = xs.take (n + 1) ++ List.replicate d (⟨#[]⟩ : ByteArray) := by
      rw [List.replicate_succ, set_mid _ _ _ _ _ (by rw [List.length_take]; omega), take_sn hl, List.append_assoc, List.singleton_append]
    apply Ev.succ
    simp only [laws_toStringS.l0, sr_nat, Int.toNat_natCast, h5, w64_succ (show n < 9223372036854775807 by omega)]
    refine Ev.cond (fun _ => ?_) (fun h' => absurd c1 h')
    refine Ev.cond (fun _ => ?_) (fun h' => absurd c2 h')
    exact Ev.cond (fun _ => h3) (fun h' => absurd c4 h')
theorem toStringS_ev (xs : List ByteArray) (hn : xs.length ≤ 1099511627776) : Ev (fun k => laws_toStringS.f k xs) xs := by
  have c1 : (0 : Int) ≤ (xs.length : Int) := by omega
  have c2 : xs.length ≤ 17592186044416 := by omega
  unfold laws_toStringS.f
  simp only [Int.toNat_natCast]
  refine Ev.cond (fun _ => ?_) (fun h' => absurd c1 h')
  exact Ev.cond (fun _ => toStringS_l0 xs hn xs.length 0 (by omega)) (fun h' => absurd c2 h')

/-! eqStringS -/
theorem eqStringS_l0 (xs ys : List ByteArray) (hl : xs.length = ys.length) (hn : xs.length ≤ 1099511627776) : ∀ d n, n + d = xs.length → Ev (fun k => laws_eqStringS.l0 k xs ys (n : Int)) (decide (xs.drop n = ys.drop n)) := by
  intro d
  induction d with
  | zero =>
    intro n h
    have c1 : ¬ (n : Int) < (xs.length : Int) := by omega
    rw [List.drop_eq_nil_of_le (show xs.length ≤ n by omega), List.drop_eq_nil_of_le (show ys.length ≤ n by omega), decide_eq_true rfl]
    apply Ev.succ
    simp only [laws_eqStringS.l0]
    exact Ev.cond (fun h' => absurd h' c1) (fun _ => Ev.now _)
  | succ d ih =>
    intro n h
    have c1 : (n : Int) < (xs.length : Int) := by omega
    have c2 : (0 : Int) ≤ (n : Int) := by omega
    have c3 : (n : Int) < (ys.length : Int) := by omega
    have h3 := ih (n + 1) (by omega)
    rw [drop_sn (show n < xs.length by omega), drop_sn (show n < ys.length by omega)]
    apply Ev.succ
    simp only [laws_eqStringS.l0, sr_nat, w64_succ (show n < 9223372036854775807 by omega), List.cons.injEq]
    refine Ev.cond (fun _ => ?_) (fun h' => absurd c1 h')
    refine Ev.cond (fun _ => ?_) (fun h' => absurd c2 h')
    refine Ev.cond (fun _ => ?_) (fun h' => absurd c3 h')
    by_cases hc : (sn xs n) = (sn ys n)
    · refine Ev.cond (fun _ => ?_) (fun h' => absurd (by rw [hc]) h')
      simp only [hc, true_and]; exact h3
    · refine Ev.cond (fun h' => absurd (bytes_ext h') hc) (fun _ => ?_)
      simp only [hc, false_and, decide_false]; exact Ev.now false
theorem eqStringS_ev (xs ys : List ByteArray) (hn : xs.length ≤ 1099511627776) : Ev (fun k => laws_eqStringS.f k xs ys) (decide (xs = ys)) := by
  unfold laws_eqStringS.f
  by_cases hl : xs.length = ys.length
  · have c1 : (xs.length : Int) = (ys.length : Int) := by omega
    exact Ev.cond (fun _ => eqStringS_l0 xs ys hl hn xs.length 0 (by omega)) (fun h' => absurd c1 h')
  · have c1 : ¬ (xs.length : Int) = (ys.length : Int) := by omega
    rw [decide_eq_false (fun h => hl (by rw [h]))]
    exact Ev.cond (fun h' => absurd h' c1) (fun _ => Ev.now false)
theorem eqStringS_same (xs : List ByteArray) (hn : xs.length ≤ 1099511627776) : Ev (fun k => laws_eqStringS.f k xs xs) true := by
  have h := eqStringS_ev xs xs hn
  rw [decide_eq_true rfl] at h
  exact h

/-! l01Bits -/
theorem l01Bits_l0 (s : ByteArray) (hn : s.size ≤ 1099511627776) : ∀ d n, n + d = s.size → Ev (fun k => spec_l01Bits.l0 k s (n : Int)) ((s.data.toList.drop n).all isBitB && decide (s.size ≤ 400)) := by
  intro d
  induction d with
  | zero =>
    intro n h
    apply Ev.succ
    have h1 : ¬ ((n : Int) < (s.size : Int)) := by omega
    have h2 : s.data.toList.drop n = [] := List.drop_eq_nil_of_le (by rw [size_data]; omega)
    have h3 : ((s.size : Int) ≤ 400) = (s.size ≤ 400) := propext ⟨fun h => by omega, fun h => by omega⟩
    simp only [spec_l01Bits.l0, h1, if_false, h2, h3]
    exact Ev.now _
  | succ d ih =>
    intro n h
    apply Ev.succ
    have hl : n < s.size := by omega
    have h1 : (n : Int) < (s.size : Int) := by omega
    have h2 : (0 : Int) ≤ (n : Int) := by omega
    have h3 := ih (n + 1) (by omega)
    rw [drop_data hl, List.all_cons]
    have hb := bt_nat s n hl
    have hi := isBit_iff (s[n])
    rw [← hb] at hi
    simp only [spec_l01Bits.l0, h1, h2, if_true, w64_succ (show n < 9223372036854775807 by omega)]
    by_cases c1 : bt s (n : Int) = 48
    · rw [hi.2 (.inl c1), Bool.true_and]
      simp only [c1, if_true]; exact h3
    · by_cases c2 : bt s (n : Int) = 49
      · rw [hi.2 (.inr c2), Bool.true_and]
        simp only [c2, if_true, Int.reduceEq, if_false]; exact h3
      · have hf : isBitB (s[n]) = false := by
          rw [Bool.eq_false_iff]; intro hc
          rcases hi.1 hc with hc | hc
          · exact c1 hc
          · exact c2 hc
        simp only [hf, Bool.false_and, c1, c2, if_false]
        exact Ev.now _
theorem l01Bits_ev (s : ByteArray) (hn : s.size ≤ 1099511627776) : Ev (fun k => spec_l01Bits.f k s) (bitsB s) := by
  have h := l01Bits_l0 s hn s.size 0 (by omega)
  exact h

/-! IsBits -/
theorem trim_bits (s : ByteArray) (h : s.size ≤ 9223372036854775807) : strings_Trim.f s (⟨#[48, 49]⟩ : ByteArray) = some ⟨(Lib.trimS s.data.toList [48, 49]).toArray⟩ := by
  unfold strings_Trim.f
  rw [if_pos ⟨h, by decide, by decide⟩]
theorem areBits_eq (s : ByteArray) (h : s.size ≤ 9223372036854775807) : impl_areBits.f s = some (s.data.toList.all isBitB) := by
  unfold impl_areBits.f
  rw [trim_bits s h, Option.bind_some]
  congr 1
  have e1 : (⟨(Lib.trimS s.data.toList [48, 49]).toArray⟩ : ByteArray).toList = Lib.trimS s.data.toList [48, 49] := by rw [Lib.toList_data]
  rw [e1, Bool.eq_iff_iff, beq_iff_eq, trimS_nil]
  have e2 : (fun b => ([48, 49] : List UInt8).contains b) = isBitB := funext contains_bits
  rw [e2]

/-! within -/
theorem within_eq (a b c : Int) : impl_within.f a b c = some (decide (b ≤ a ∧ a ≤ c)) := by
  unfold impl_within.f
  by_cases h : b ≤ a
  · simp [h, ge_iff_le]
  · simp [h, ge_iff_le]

/-! l00In -/
theorem l00In_eq (a b c : Int) : spec_l00In.f a b c = some (decide (b ≤ a ∧ a ≤ c)) := by
  unfold spec_l00In.f
  by_cases h : b ≤ a
  · simp [h, ge_iff_le]
  · simp [h, ge_iff_le]

abbrev SpR := List Int × List Int × Bool
theorem getD_set (xs : List Int) (i j : Nat) (v : Int) : (xs.set i v).getD j 0 = if i = j ∧ i < xs.length then v else xs.getD j 0 := by
  rw [List.getD_eq_getElem?_getD, List.getElem?_set, List.getD_eq_getElem?_getD]
  by_cases h : i = j
  · subst h
    by_cases h2 : i < xs.length
    · simp [h2]
    · rw [if_pos rfl, if_neg h2, if_neg (fun h3 => h2 h3.2), List.getElem?_eq_none (by omega)]
  · rw [if_neg h, if_neg (fun h3 => h h3.1)]
/-- What is used of the coins lies within them. -/
def SpUsed (cs : List ByteArray) (us : List Int) : Prop := us.length = cs.length ∧ ∀ i : Nat, i < cs.length → 0 ≤ us.getD i 0 ∧ us.getD i 0 ≤ ((sn cs i).size : Int)
/-- A set of stations. -/
def SpIn (cs : List ByteArray) (xs : List Int) : Prop := ∀ x ∈ xs, 0 ≤ x ∧ x < (cs.length : Int)
def SpRow (cs : List ByteArray) (xs : List Int) : Prop := xs.length ≤ 12 ∧ SpIn cs xs
def SpOk (r : SpR) : Prop := r.1.length ≤ 300 ∧ r.2.1.length ≤ 300
theorem SpUsed.set {cs : List ByteArray} {us : List Int} (h : SpUsed cs us) {i : Nat} {v : Int} (h1 : 0 ≤ v) (h2 : v ≤ ((sn cs i).size : Int)) : SpUsed cs (us.set i v) := by
  refine ⟨by rw [List.length_set]; exact h.1, fun j hj => ?_⟩
  rw [getD_set]
  by_cases hc : i = j ∧ i < us.length
  · rw [if_pos hc, ← hc.1]; exact ⟨h1, h2⟩
  · rw [if_neg hc]; exact h.2 j hj
theorem SpIn.app {cs : List ByteArray} {xs : List Int} (h : SpIn cs xs) {x : Int} (h1 : 0 ≤ x) (h2 : x < (cs.length : Int)) : SpIn cs (xs ++ [x]) := by
  intro y hy
  rcases List.mem_append.1 hy with hy | hy
  · exact h y hy
  · rw [List.mem_singleton.1 hy]; exact ⟨h1, h2⟩
theorem sp_inner (cs : List ByteArray) (hc : cs.length ≤ 12) (hz : ∀ i, (sn cs i).size ≤ 40) (st : List (List Int)) (hst : st.length ≤ 1000) (se od : List Int) (R : SpR → Prop) (hR : R ([], [], false)) (set : List Int) (hset : SpRow cs set)
    (H : ∀ us ones zeros, SpUsed cs us → SpRow cs ones → SpRow cs zeros → ∃ r, Ev (fun k => spec_SplitRun.l1 k cs us (st ++ [ones, zeros]) se od) r ∧ Ev (fun k => impl_SplitRun.l1 k cs us se od (st ++ [ones, zeros])) r ∧ R r) :
    ∀ (d j : Nat) (us ones zeros : List Int), j + d = set.length → SpUsed cs us → SpIn cs ones → SpIn cs zeros → ones.length + zeros.length ≤ j →
      ∃ r, Ev (fun k => spec_SplitRun.l2 k cs us st se od set ones zeros (j : Int)) r ∧ Ev (fun k => impl_SplitRun.l2 k cs us se od st ones zeros set (set.length : Int) (j : Int)) r ∧ R r := by
  intro d
  have hsl := hset.1
  induction d with
  | zero =>
    intro j us ones zeros h hu h1 h2 hl
    obtain ⟨r, hs, hi, hr⟩ := H us ones zeros hu ⟨by omega, h1⟩ ⟨by omega, h2⟩
    have c1 : ¬ (j : Int) < (set.length : Int) := by omega
    have c2 : st.length + ([ones, zeros] : List (List Int)).length < 5864062014805 := by rw [List.length_cons, List.length_singleton]; omega
    refine ⟨r, ?_, ?_, hr⟩
    · apply Ev.succ
      simp only [spec_SplitRun.l2]
      refine Ev.cond (fun h' => absurd h' c1) (fun _ => ?_)
      refine Ev.bind (Ev.const rfl) ?_
      exact Ev.cond (fun _ => hs) (fun h' => absurd c2 h')
    · apply Ev.succ
      simp only [impl_SplitRun.l2]
      refine Ev.cond (fun h' => absurd h' c1) (fun _ => ?_)
      refine Ev.bind (Ev.const rfl) ?_
      exact Ev.cond (fun _ => hi) (fun h' => absurd c2 h')
  | succ d ih =>
    intro j us ones zeros h hu h1 h2 hl
    have hj : j < set.length := by omega
    obtain ⟨p1, p2⟩ := hset.2 _ (rd_mem hj)
    obtain ⟨i, ei⟩ := Int.eq_ofNat_of_zero_le p1
    rw [ei] at p2
    have hi : i < cs.length := by omega
    obtain ⟨q1, q2⟩ := hu.2 i hi
    have eu : rd us (i : Int) = us.getD i 0 := rd_nat us i
    have hzi := hz i
    have hul := hu.1
    generalize hv : us.getD i 0 = v at eu q1 q2
    have c1 : (j : Int) < (set.length : Int) := by omega
    have c2 : (0 : Int) ≤ (j : Int) := by omega
    have c3 : (0 : Int) ≤ (i : Int) := by omega
    have c4 : (i : Int) < (us.length : Int) := by omega
    have c8 : ones.length < 17592186044416 := by omega
    have c9 : zeros.length < 17592186044416 := by omega
    have g1 : (ones ++ [(i : Int)]).length + zeros.length ≤ j + 1 := by rw [List.length_append, List.length_singleton]; omega
    have g2 : ones.length + (zeros ++ [(i : Int)]).length ≤ j + 1 := by rw [List.length_append, List.length_singleton]; omega
    have g3 : j + 1 + d = set.length := by omega
    have g4 : 0 ≤ v + 1 := by omega
    have ew : wrap64 (v + 1) = v + 1 := w64 (by omega) (by omega)
    have ej := w64_succ (show j < 9223372036854775807 by omega)
    by_cases c5 : v = ((sn cs i).size : Int)
    · refine ⟨([], [], false), ?_, ?_, hR⟩
      · apply Ev.succ
        simp only [spec_SplitRun.l2, ei, eu, sr_nat]
        refine Ev.cond (fun _ => ?_) (fun h' => absurd c1 h')
        refine Ev.cond (fun _ => ?_) (fun h' => absurd c2 h')
        refine Ev.cond (fun _ => ?_) (fun h' => absurd c3 h')
        refine Ev.cond (fun _ => ?_) (fun h' => absurd c4 h')
        refine Ev.cond (fun _ => ?_) (fun h' => absurd p2 h')
        exact Ev.cond (fun _ => Ev.now _) (fun h' => absurd c5 h')
      · apply Ev.succ
        simp only [impl_SplitRun.l2, ei, eu, sr_nat]
        refine Ev.cond (fun _ => ?_) (fun h' => absurd c1 h')
        refine Ev.cond (fun _ => ?_) (fun h' => absurd c2 h')
        refine Ev.cond (fun _ => ?_) (fun h' => absurd c1 h')
        refine Ev.cond (fun _ => ?_) (fun h' => absurd c3 h')
        refine Ev.cond (fun _ => ?_) (fun h' => absurd c4 h')
        refine Ev.cond (fun _ => ?_) (fun h' => absurd p2 h')
        exact Ev.cond (fun _ => Ev.now _) (fun h' => absurd c5 h')
    have c6 : v < ((sn cs i).size : Int) := by clear ew ej; omega
    have hu2 : SpUsed cs (us.set i (v + 1)) := hu.set g4 (by clear ew ej; omega)
    by_cases c7 : (bt (sn cs i) v) = 49
    · obtain ⟨r, hs, hI, hr⟩ := ih (j + 1) (us.set i (v + 1)) (ones ++ [(i : Int)]) zeros g3 hu2 (h1.app c3 p2) h2 g1
      refine ⟨r, ?_, ?_, hr⟩
      · apply Ev.succ
        simp only [spec_SplitRun.l2, ei, eu, sr_nat, ew, ej, Int.toNat_natCast]
        refine Ev.cond (fun _ => ?_) (fun h' => absurd c1 h')
        refine Ev.cond (fun _ => ?_) (fun h' => absurd c2 h')
        refine Ev.cond (fun _ => ?_) (fun h' => absurd c3 h')
        refine Ev.cond (fun _ => ?_) (fun h' => absurd c4 h')
        refine Ev.cond (fun _ => ?_) (fun h' => absurd p2 h')
        refine Ev.cond (fun h' => absurd h' c5) (fun _ => ?_)
        refine Ev.cond (fun _ => ?_) (fun h' => absurd q1 h')
        refine Ev.cond (fun _ => ?_) (fun h' => absurd c6 h')
        refine Ev.cond (fun _ => ?_) (fun h' => absurd c7 h')
        exact Ev.cond (fun _ => hs) (fun h' => absurd c8 h')
      · apply Ev.succ
        simp only [impl_SplitRun.l2, ei, eu, sr_nat, ew, ej, Int.toNat_natCast]
        refine Ev.cond (fun _ => ?_) (fun h' => absurd c1 h')
        refine Ev.cond (fun _ => ?_) (fun h' => absurd c2 h')
        refine Ev.cond (fun _ => ?_) (fun h' => absurd c1 h')
        refine Ev.cond (fun _ => ?_) (fun h' => absurd c3 h')
        refine Ev.cond (fun _ => ?_) (fun h' => absurd c4 h')
        refine Ev.cond (fun _ => ?_) (fun h' => absurd p2 h')
        refine Ev.cond (fun h' => absurd h' c5) (fun _ => ?_)
        refine Ev.cond (fun _ => ?_) (fun h' => absurd q1 h')
        refine Ev.cond (fun _ => ?_) (fun h' => absurd c6 h')
        refine Ev.cond (fun _ => ?_) (fun h' => absurd c7 h')
        exact Ev.cond (fun _ => hI) (fun h' => absurd c8 h')
    · obtain ⟨r, hs, hI, hr⟩ := ih (j + 1) (us.set i (v + 1)) ones (zeros ++ [(i : Int)]) g3 hu2 h1 (h2.app c3 p2) g2
      refine ⟨r, ?_, ?_, hr⟩
      · apply Ev.succ
        simp only [spec_SplitRun.l2, ei, eu, sr_nat, ew, ej, Int.toNat_natCast]
        refine Ev.cond (fun _ => ?_) (fun h' => absurd c1 h')
        refine Ev.cond (fun _ => ?_) (fun h' => absurd c2 h')
        refine Ev.cond (fun _ => ?_) (fun h' => absurd c3 h')
        refine Ev.cond (fun _ => ?_) (fun h' => absurd c4 h')
        refine Ev.cond (fun _ => ?_) (fun h' => absurd p2 h')
        refine Ev.cond (fun h' => absurd h' c5) (fun _ => ?_)
        refine Ev.cond (fun _ => ?_) (fun h' => absurd q1 h')
        refine Ev.cond (fun _ => ?_) (fun h' => absurd c6 h')
        refine Ev.cond (fun h' => absurd h' c7) (fun _ => ?_)
        exact Ev.cond (fun _ => hs) (fun h' => absurd c9 h')
      · apply Ev.succ
        simp only [impl_SplitRun.l2, ei, eu, sr_nat, ew, ej, Int.toNat_natCast]
        refine Ev.cond (fun _ => ?_) (fun h' => absurd c1 h')
        refine Ev.cond (fun _ => ?_) (fun h' => absurd c2 h')
        refine Ev.cond (fun _ => ?_) (fun h' => absurd c1 h')
        refine Ev.cond (fun _ => ?_) (fun h' => absurd c3 h')
        refine Ev.cond (fun _ => ?_) (fun h' => absurd c4 h')
        refine Ev.cond (fun _ => ?_) (fun h' => absurd p2 h')
        refine Ev.cond (fun h' => absurd h' c5) (fun _ => ?_)
        refine Ev.cond (fun _ => ?_) (fun h' => absurd q1 h')
        refine Ev.cond (fun _ => ?_) (fun h' => absurd c6 h')
        refine Ev.cond (fun h' => absurd h' c7) (fun _ => ?_)
        exact Ev.cond (fun _ => hI) (fun h' => absurd c9 h')
theorem rdL_last (pre : List (List Int)) (row : List Int) : rd_L2 (pre ++ [row]) (pre.length : Int) = row := by
  unfold rd_L2
  rw [Int.toNat_natCast, List.getD_eq_getElem?_getD, List.getElem?_append_right (Nat.le_refl _), Nat.sub_self]; rfl
theorem sp_outer (cs : List ByteArray) (hc : cs.length ≤ 12) (hz : ∀ i, (sn cs i).size ≤ 40) : ∀ (d : Nat) (se od us : List Int) (st : List (List Int)), se.length + d = 300 → st.length ≤ 1 + 2 * se.length → (∀ r ∈ st, SpRow cs r) → SpUsed cs us → od.length ≤ se.length →
    ∃ r, Ev (fun k => spec_SplitRun.l1 k cs us st se od) r ∧ Ev (fun k => impl_SplitRun.l1 k cs us se od st) r ∧ SpOk r := by
  intro d
  induction d with
  | zero =>
    intro se od us st h hst hr hu ho
    rcases List.eq_nil_or_concat st with rfl | ⟨pre, row, rfl⟩
    · have c1 : ¬ ((([] : List (List Int)).length : Nat) : Int) > 0 := by simp
      refine ⟨(se, od, true), ?_, ?_, ⟨show se.length ≤ 300 by omega, show od.length ≤ 300 by omega⟩⟩
      · apply Ev.succ
        simp only [spec_SplitRun.l1]
        exact Ev.cond (fun h' => absurd h' c1) (fun _ => Ev.now _)
      · apply Ev.succ
        simp only [impl_SplitRun.l1]
        exact Ev.cond (fun h' => absurd h' c1) (fun _ => Ev.now _)
    · rw [List.concat_eq_append] at hst hr ⊢
      rw [List.length_append, List.length_singleton] at hst
      have el : (pre ++ [row]).length = pre.length + 1 := by rw [List.length_append, List.length_singleton]
      have e : wrap64 (((pre ++ [row]).length : Int) - 1) = (pre.length : Int) := by rw [el, w64 (by omega) (by omega)]; omega
      have c1 : ((pre ++ [row]).length : Int) > 0 := by omega
      have c2 : (0 : Int) ≤ (pre.length : Int) := by omega
      have c3 : (pre.length : Int) < ((pre ++ [row]).length : Int) := by omega
      have c4 : (pre.length : Int) ≤ ((pre ++ [row]).length : Int) := by omega
      have c5 : (se.length : Int) = 300 := by omega
      refine ⟨([], [], false), ?_, ?_, ⟨by simp, by simp⟩⟩
      · apply Ev.succ
        simp only [spec_SplitRun.l1]
        refine Ev.cond (fun _ => ?_) (fun h' => absurd c1 h')
        exact Ev.cond (fun _ => Ev.now _) (fun h' => absurd c5 h')
      · apply Ev.succ
        simp only [impl_SplitRun.l1, e]
        refine Ev.cond (fun _ => ?_) (fun h' => absurd c1 h')
        refine Ev.cond (fun _ => ?_) (fun h' => absurd c2 h')
        refine Ev.cond (fun _ => ?_) (fun h' => absurd c3 h')
        refine Ev.cond (fun _ => ?_) (fun h' => absurd c4 h')
        refine Ev.bind (Ev.const rfl) ?_
        exact Ev.cond (fun _ => Ev.now _) (fun h' => absurd c5 h')
  | succ d ih =>
    intro se od us st h hst hr hu ho
    rcases List.eq_nil_or_concat st with rfl | ⟨pre, row, rfl⟩
    · have c1 : ¬ ((([] : List (List Int)).length : Nat) : Int) > 0 := by simp
      refine ⟨(se, od, true), ?_, ?_, ⟨show se.length ≤ 300 by omega, show od.length ≤ 300 by omega⟩⟩
      · apply Ev.succ
        simp only [spec_SplitRun.l1]
        exact Ev.cond (fun h' => absurd h' c1) (fun _ => Ev.now _)
      · apply Ev.succ
        simp only [impl_SplitRun.l1]
        exact Ev.cond (fun h' => absurd h' c1) (fun _ => Ev.now _)
    · rw [List.concat_eq_append] at hst hr ⊢
      rw [List.length_append, List.length_singleton] at hst
      have el : (pre ++ [row]).length = pre.length + 1 := by rw [List.length_append, List.length_singleton]
      have e : wrap64 (((pre ++ [row]).length : Int) - 1) = (pre.length : Int) := by rw [el, w64 (by omega) (by omega)]; omega
      have c1 : ((pre ++ [row]).length : Int) > 0 := by omega
      have c2 : (0 : Int) ≤ (pre.length : Int) := by omega
      have c3 : (pre.length : Int) < ((pre ++ [row]).length : Int) := by omega
      have c4 : (pre.length : Int) ≤ ((pre ++ [row]).length : Int) := by omega
      have c5 : ¬ (se.length : Int) = 300 := by omega
      have c6 : se.length < 17592186044416 := by omega
      have c7 : od.length < 17592186044416 := by omega
      have et : (pre ++ [row]).take pre.length = pre := by rw [List.take_append_of_le_length (Nat.le_refl _), List.take_length]
      have er := rdL_last pre row
      have hrow : SpRow cs row := hr row (List.mem_append_right _ (List.mem_singleton.2 rfl))
      have hpre : ∀ r ∈ pre, SpRow cs r := fun r hm => hr r (List.mem_append_left _ hm)
      have hsl : (se ++ [(row.length : Int)]).length = se.length + 1 := by rw [List.length_append, List.length_singleton]
      by_cases d1 : (row.length : Int) = 1
      · have d2 : (0 : Int) < (row.length : Int) := by omega
        obtain ⟨r, hs, hi, hR⟩ := ih (se ++ [(row.length : Int)]) (od ++ [rd row 0]) us pre (by omega) (by omega) hpre hu (by rw [hsl, List.length_append, List.length_singleton]; omega)
        refine ⟨r, ?_, ?_, hR⟩
        · apply Ev.succ
          simp only [spec_SplitRun.l1, e, er, Int.toNat_natCast, et]
          refine Ev.cond (fun _ => ?_) (fun h' => absurd c1 h')
          refine Ev.cond (fun h' => absurd h' c5) (fun _ => ?_)
          refine Ev.cond (fun _ => ?_) (fun h' => absurd c2 h')
          refine Ev.cond (fun _ => ?_) (fun h' => absurd c3 h')
          refine Ev.cond (fun _ => ?_) (fun h' => absurd c4 h')
          refine Ev.bind (Ev.const rfl) ?_
          refine Ev.cond (fun _ => ?_) (fun h' => absurd c6 h')
          refine Ev.bind (Ev.const rfl) ?_
          refine Ev.cond (fun _ => ?_) (fun h' => absurd d1 h')
          refine Ev.cond (fun _ => ?_) (fun h' => absurd d2 h')
          exact Ev.cond (fun _ => hs) (fun h' => absurd c7 h')
        · apply Ev.succ
          simp only [impl_SplitRun.l1, e, er, Int.toNat_natCast, et]
          refine Ev.cond (fun _ => ?_) (fun h' => absurd c1 h')
          refine Ev.cond (fun _ => ?_) (fun h' => absurd c2 h')
          refine Ev.cond (fun _ => ?_) (fun h' => absurd c3 h')
          refine Ev.cond (fun _ => ?_) (fun h' => absurd c4 h')
          refine Ev.bind (Ev.const rfl) ?_
          refine Ev.cond (fun h' => absurd h' c5) (fun _ => ?_)
          refine Ev.cond (fun _ => ?_) (fun h' => absurd c6 h')
          refine Ev.bind (Ev.const rfl) ?_
          refine Ev.cond (fun _ => ?_) (fun h' => absurd d1 h')
          refine Ev.cond (fun _ => ?_) (fun h' => absurd d2 h')
          exact Ev.cond (fun _ => hi) (fun h' => absurd c7 h')
      have key : ∃ r, Ev (fun k => if (row.length : Int) < 2 then spec_SplitRun.l1 k cs us pre (se ++ [(row.length : Int)]) od else spec_SplitRun.l2 k cs us pre (se ++ [(row.length : Int)]) od row [] [] 0) r ∧
          Ev (fun k => if (row.length : Int) < 2 then impl_SplitRun.l1 k cs us (se ++ [(row.length : Int)]) od pre else impl_SplitRun.l2 k cs us (se ++ [(row.length : Int)]) od pre [] [] row (row.length : Int) 0) r ∧ SpOk r := by
        by_cases d2 : (row.length : Int) < 2
        · obtain ⟨r, hs, hi, hR⟩ := ih (se ++ [(row.length : Int)]) od us pre (by omega) (by omega) hpre hu (by omega)
          exact ⟨r, Ev.cond (fun _ => hs) (fun h' => absurd d2 h'), Ev.cond (fun _ => hi) (fun h' => absurd d2 h'), hR⟩
        · obtain ⟨r, hs, hi, hR⟩ := sp_inner cs hc hz pre (by omega) (se ++ [(row.length : Int)]) od SpOk ⟨by simp, by simp⟩ row hrow (fun us' ones zeros hu' h1 h2 => ih (se ++ [(row.length : Int)]) od us' (pre ++ [ones, zeros]) (by omega) (by rw [List.length_append, List.length_cons, List.length_singleton]; omega) (fun r hm => by
              rcases List.mem_append.1 hm with hm | hm
              · exact hpre r hm
              · rcases List.mem_cons.1 hm with rfl | hm
                · exact h1
                · rw [List.mem_singleton.1 hm]; exact h2) hu' (by omega)) row.length 0 us [] [] (by omega) hu (fun x hx => absurd hx (by simp)) (fun x hx => absurd hx (by simp)) (by simp)
          exact ⟨r, Ev.cond (fun h' => absurd h' d2) (fun _ => hs), Ev.cond (fun h' => absurd h' d2) (fun _ => hi), hR⟩
      obtain ⟨r, hs, hi, hR⟩ := key
      refine ⟨r, ?_, ?_, hR⟩
      · apply Ev.succ
        simp only [spec_SplitRun.l1, e, er, Int.toNat_natCast, et]
        refine Ev.cond (fun _ => ?_) (fun h' => absurd c1 h')
        refine Ev.cond (fun h' => absurd h' c5) (fun _ => ?_)
        refine Ev.cond (fun _ => ?_) (fun h' => absurd c2 h')
        refine Ev.cond (fun _ => ?_) (fun h' => absurd c3 h')
        refine Ev.cond (fun _ => ?_) (fun h' => absurd c4 h')
        refine Ev.bind (Ev.const rfl) ?_
        refine Ev.cond (fun _ => ?_) (fun h' => absurd c6 h')
        refine Ev.bind (Ev.const rfl) ?_
        exact Ev.cond (fun h' => absurd h' d1) (fun _ => hs)
      · apply Ev.succ
        simp only [impl_SplitRun.l1, e, er, Int.toNat_natCast, et]
        refine Ev.cond (fun _ => ?_) (fun h' => absurd c1 h')
        refine Ev.cond (fun _ => ?_) (fun h' => absurd c2 h')
        refine Ev.cond (fun _ => ?_) (fun h' => absurd c3 h')
        refine Ev.cond (fun _ => ?_) (fun h' => absurd c4 h')
        refine Ev.bind (Ev.const rfl) ?_
        refine Ev.cond (fun h' => absurd h' c5) (fun _ => ?_)
        refine Ev.cond (fun _ => ?_) (fun h' => absurd c6 h')
        refine Ev.bind (Ev.const rfl) ?_
        exact Ev.cond (fun h' => absurd h' d1) (fun _ => hi)
/-- A coin text. -/
def coinB (s : ByteArray) : Bool := decide (s.size ≤ 40) && s.data.toList.all isBitB
def coinsB (cs : List ByteArray) : Bool := cs.all coinB && decide ((1 : Int) ≤ (cs.length : Int) ∧ (cs.length : Int) ≤ 12)
theorem coins_l0 (cs : List ByteArray) (hn : cs.length ≤ 1099511627776) : ∀ (d n : Nat), n + d = cs.length → Ev (fun k => spec_l09Coins.l0 k cs (n : Int)) ((cs.drop n).all coinB && decide ((1 : Int) ≤ (cs.length : Int) ∧ (cs.length : Int) ≤ 12)) := by
  intro d
  induction d with
  | zero =>
    intro n h
    have c1 : ¬ (n : Int) < (cs.length : Int) := by omega
    rw [List.drop_eq_nil_of_le (by omega)]
    apply Ev.succ
    simp only [spec_l09Coins.l0, spec_l09Many.f, l00In_eq, Option.bind_some]
    exact Ev.cond (fun h' => absurd h' c1) (fun _ => Ev.now _)
  | succ d ih =>
    intro n h
    have hl : n < cs.length := by omega
    have c1 : (n : Int) < (cs.length : Int) := by omega
    have c2 : (0 : Int) ≤ (n : Int) := by omega
    have h3 := ih (n + 1) (by omega)
    rw [drop_sn hl, List.all_cons]
    apply Ev.succ
    simp only [spec_l09Coins.l0, sr_nat, w64_succ (show n < 9223372036854775807 by omega)]
    refine Ev.cond (fun _ => ?_) (fun h' => absurd c1 h')
    refine Ev.cond (fun _ => ?_) (fun h' => absurd c2 h')
    by_cases c3 : ((sn cs n).size : Int) > 40
    · have e : coinB (sn cs n) = false := by unfold coinB; rw [decide_eq_false (by omega), Bool.false_and]
      rw [e, Bool.false_and, Bool.false_and]
      exact Ev.cond (fun _ => Ev.now _) (fun h' => absurd c3 h')
    · refine Ev.cond (fun h' => absurd h' c3) (fun _ => ?_)
      refine Ev.bind (l01Bits_ev (sn cs n) (by omega)) ?_
      have e : bitsB (sn cs n) = coinB (sn cs n) := by unfold bitsB coinB; rw [decide_eq_true (by omega), decide_eq_true (by omega), Bool.and_true, Bool.true_and]
      rw [e]
      rcases coinB (sn cs n) with _ | _
      · exact Ev.cond (fun h' => absurd h' (by decide)) (fun _ => Ev.now _)
      · exact Ev.cond (fun _ => h3) (fun h' => absurd rfl h')
theorem coins_ev (cs : List ByteArray) (hn : cs.length ≤ 1099511627776) : Ev (fun k => spec_l09Coins.f k cs) (coinsB cs) := by
  have h := coins_l0 cs hn cs.length 0 (by omega)
  exact h
/-- All stations so far. -/
def idxN (n : Nat) : List Int := (List.range n).map (fun i : Nat => (i : Int))
theorem idxN_succ (n : Nat) : idxN n ++ [(n : Int)] = idxN (n + 1) := by unfold idxN; rw [List.range_succ, List.map_append, List.map_singleton]
theorem idxN_length (n : Nat) : (idxN n).length = n := by unfold idxN; rw [List.length_map, List.length_range]
theorem sp_s0 (cs : List ByteArray) (hn : cs.length ≤ 1099511627776) (us : List Int) (r : SpR) (hr : Ev (fun k => spec_SplitRun.l1 k cs us [idxN cs.length] [] []) r) : ∀ (d n : Nat), n + d = cs.length → Ev (fun k => spec_SplitRun.l0 k cs us (idxN n) (n : Int)) r := by
  intro d
  induction d with
  | zero =>
    intro n h
    have c1 : ¬ (n : Int) < (cs.length : Int) := by omega
    obtain rfl : n = cs.length := by omega
    apply Ev.succ
    simp only [spec_SplitRun.l0]
    exact Ev.cond (fun h' => absurd h' c1) (fun _ => hr)
  | succ d ih =>
    intro n h
    have c1 : (n : Int) < (cs.length : Int) := by omega
    have c2 : (idxN n).length < 17592186044416 := by rw [idxN_length]; omega
    have h3 := ih (n + 1) (by omega)
    apply Ev.succ
    simp only [spec_SplitRun.l0, idxN_succ, w64_succ (show n < 9223372036854775807 by omega)]
    refine Ev.cond (fun _ => ?_) (fun h' => absurd c1 h')
    exact Ev.cond (fun _ => h3) (fun h' => absurd c2 h')
theorem sp_i0 (cs : List ByteArray) (hn : cs.length ≤ 1099511627776) (hs : ∀ i, (sn cs i).size ≤ 9223372036854775807) (r : SpR) (hr : cs.all coinB = true → Ev (fun k => impl_SplitRun.l1 k cs (List.replicate cs.length 0) [] [] [idxN cs.length]) r) (hr2 : cs.all coinB = false → r = ([], [], false)) :
    ∀ (d n : Nat), n + d = cs.length → (cs.take n).all coinB = true → Ev (fun k => impl_SplitRun.l0 k cs (idxN n) cs (cs.length : Int) (n : Int)) r := by
  intro d
  induction d with
  | zero =>
    intro n h hp
    have c1 : ¬ (n : Int) < (cs.length : Int) := by omega
    obtain rfl : n = cs.length := by omega
    rw [List.take_length] at hp
    have c2 : (0 : Int) ≤ (cs.length : Int) := by omega
    have c3 : cs.length ≤ 35184372088832 := by omega
    apply Ev.succ
    simp only [impl_SplitRun.l0, Int.toNat_natCast]
    refine Ev.cond (fun h' => absurd h' c1) (fun _ => ?_)
    refine Ev.cond (fun _ => ?_) (fun h' => absurd c2 h')
    exact Ev.cond (fun _ => hr hp) (fun h' => absurd c3 h')
  | succ d ih =>
    intro n h hp
    have hl : n < cs.length := by omega
    have c1 : (n : Int) < (cs.length : Int) := by omega
    have c2 : (0 : Int) ≤ (n : Int) := by omega
    have c5 : (idxN n).length < 17592186044416 := by rw [idxN_length]; omega
    have bad : coinB (sn cs n) = false → r = ([], [], false) := fun hb => hr2 (by
      rw [Bool.eq_false_iff]; intro hall
      rw [List.all_eq_true] at hall
      rw [hall _ (sn_mem hl)] at hb
      exact absurd hb (by decide))
    apply Ev.succ
    simp only [impl_SplitRun.l0, sr_nat, areBits_eq _ (hs n), Option.bind_some, idxN_succ, w64_succ (show n < 9223372036854775807 by omega)]
    refine Ev.cond (fun _ => ?_) (fun h' => absurd c1 h')
    refine Ev.cond (fun _ => ?_) (fun h' => absurd c2 h')
    refine Ev.cond (fun _ => ?_) (fun h' => absurd c1 h')
    by_cases c3 : ((sn cs n).size : Int) > 40
    · rw [bad (by unfold coinB; rw [decide_eq_false (by omega), Bool.false_and])]
      exact Ev.cond (fun _ => Ev.now _) (fun h' => absurd c3 h')
    · refine Ev.cond (fun h' => absurd h' c3) (fun _ => ?_)
      have e : (sn cs n).data.toList.all isBitB = coinB (sn cs n) := by unfold coinB; rw [decide_eq_true (by omega), Bool.true_and]
      rw [e]
      cases hb : coinB (sn cs n) with
      | false =>
        rw [bad hb]
        exact Ev.cond (fun h' => absurd h' (by decide)) (fun _ => Ev.now _)
      | true =>
        have h3 := ih (n + 1) (by omega) (by rw [take_sn hl, List.all_append, hp, List.all_cons, hb]; rfl)
        refine Ev.cond (fun _ => ?_) (fun h' => absurd rfl h')
        exact Ev.cond (fun _ => h3) (fun h' => absurd c5 h')
theorem SplitRun_ev (cs : List ByteArray) (hn : cs.length ≤ 1099511627776) (hs : ∀ i, (sn cs i).size ≤ 9223372036854775807) : ∃ r, Ev (fun k => spec_SplitRun.f k cs) r ∧ Ev (fun k => impl_SplitRun.f k cs) r ∧ SpOk r := by
  have hno : SpOk ([], [], false) := ⟨by simp, by simp⟩
  by_cases hm : (1 : Int) ≤ (cs.length : Int) ∧ (cs.length : Int) ≤ 12
  · cases hb : cs.all coinB with
    | false =>
      refine ⟨([], [], false), ?_, ?_, hno⟩
      · unfold spec_SplitRun.f
        have h := coins_ev cs hn
        rw [show coinsB cs = false by unfold coinsB; rw [hb, Bool.false_and]] at h
        exact Ev.bind h (Ev.cond (fun h' => absurd h' (by decide)) (fun _ => Ev.now _))
      · unfold impl_SplitRun.f impl_areStations.f
        simp only [within_eq, Option.bind_some, decide_eq_true hm, if_true]
        exact sp_i0 cs hn hs ([], [], false) (fun h' => absurd (hb.symm.trans h') (by decide)) (fun _ => rfl) cs.length 0 (by omega) rfl
    | true =>
      have hz : ∀ i, (sn cs i).size ≤ 40 := by
        intro i
        by_cases hi : i < cs.length
        · have h := List.all_eq_true.1 hb _ (sn_mem hi)
          unfold coinB at h
          rw [Bool.and_eq_true, decide_eq_true_eq] at h
          exact h.1
        · unfold sn
          rw [List.getD_eq_getElem?_getD, List.getElem?_eq_none (by omega)]
          exact Nat.zero_le _
      have hrow : SpRow cs (idxN cs.length) := by
        refine ⟨by rw [idxN_length]; omega, fun x hx => ?_⟩
        unfold idxN at hx
        obtain ⟨i, hi, rfl⟩ := List.mem_map.1 hx
        have := List.mem_range.1 hi
        exact ⟨by omega, by omega⟩
      have hu : SpUsed cs (List.replicate cs.length 0) := by
        refine ⟨List.length_replicate, fun i hi => ?_⟩
        rw [List.getD_eq_getElem?_getD, List.getElem?_replicate, if_pos hi]
        exact ⟨Int.le_refl 0, Int.natCast_nonneg _⟩
      obtain ⟨r, h1, h2, hR⟩ := sp_outer cs (by omega) hz 300 [] [] (List.replicate cs.length 0) [idxN cs.length] (by simp) (by simp) (fun q hq => by rw [List.mem_singleton.1 hq]; exact hrow) hu (by simp)
      have c2 : (0 : Int) ≤ (cs.length : Int) := by omega
      have c3 : cs.length ≤ 35184372088832 := by omega
      refine ⟨r, ?_, ?_, hR⟩
      · unfold spec_SplitRun.f
        have h := coins_ev cs hn
        rw [show coinsB cs = true by unfold coinsB; rw [hb, decide_eq_true hm]; rfl] at h
        refine Ev.bind h ?_
        refine Ev.cond (fun _ => ?_) (fun h' => absurd rfl h')
        simp only [Int.toNat_natCast]
        refine Ev.cond (fun _ => ?_) (fun h' => absurd c2 h')
        exact Ev.cond (fun _ => sp_s0 cs hn _ r h1 cs.length 0 (by omega)) (fun h' => absurd c3 h')
      · unfold impl_SplitRun.f impl_areStations.f
        simp only [within_eq, Option.bind_some, decide_eq_true hm, if_true]
        exact sp_i0 cs hn hs r (fun _ => h2) (fun h' => absurd (hb.symm.trans h') (by decide)) cs.length 0 (by omega) rfl
  · refine ⟨([], [], false), ?_, ?_, hno⟩
    · unfold spec_SplitRun.f
      have h := coins_ev cs hn
      rw [show coinsB cs = false by unfold coinsB; rw [decide_eq_false hm, Bool.and_false]] at h
      exact Ev.bind h (Ev.cond (fun h' => absurd h' (by decide)) (fun _ => Ev.now _))
    · unfold impl_SplitRun.f impl_areStations.f
      simp only [within_eq, Option.bind_some, decide_eq_false hm]
      exact Ev.cond (fun h' => absurd h' (by decide)) (fun _ => Ev.now _)
theorem FnExactSplitRun : laws_FnExactSplitRun.Pure := by
  intro ws hm0 hx0
  refine Ev.rounds ?_
  unfold laws_FnExactSplitRun.f
  obtain ⟨v, hv, hp⟩ := szS_ev ws hx0 hm0 1048576 (by omega) (by omega)
  refine Ev.bind hv ?_
  rcases hp with rfl | ⟨hp, hq⟩
  · exact Ev.cond (fun _ => Ev.now _) (fun h' => absurd (by decide) h')
  have n1 : ¬ v < 0 := by omega
  refine Ev.cond (fun h' => absurd h' n1) (fun _ => ?_)
  have l2 : ws.length ≤ 1099511627776 := by omega
  have z1 : ∀ i, (sn ws i).size ≤ 9223372036854775807 := fun i => by have := sn_size ws i; omega
  have t1 := toStringS_ev ws l2
  obtain ⟨⟨r1, r2, r3⟩, hs, hi, hR1, hR2⟩ := SplitRun_ev ws l2 z1
  simp only at hR1 hR2
  have m1 : r1.length ≤ 1099511627776 := by omega
  have m2 : r2.length ≤ 1099511627776 := by omega
  have n2 : ¬ (1 + (r1.length : Int)) < 0 := by omega
  have n3 : ¬ (1 + (r1.length : Int) + (r2.length : Int)) < 0 := by omega
  have n4 : ¬ (((1 + ws.length : Nat) : Int)) < 0 := by omega
  refine Ev.bind t1 (Ev.bind hs (Ev.bind t1 (Ev.bind hi ?_)))
  refine Ev.bind (eqInt64S_same r1 m1) (Ev.cond (fun _ => ?_) (fun h' => absurd rfl h'))
  refine Ev.bind (eqInt64S_same r2 m2) (Ev.cond (fun _ => ?_) (fun h' => absurd rfl h'))
  simp only [bne_self_eq_false]
  apply Ev.succ
  simp only [laws_FnExactSplitRun.j0]
  refine Ev.cond (fun h' => absurd h' (by decide)) (fun _ => ?_)
  refine Ev.bind t1 (Ev.bind (eqStringS_same ws l2) ?_)
  refine Ev.cond (fun _ => ?_) (fun h' => absurd rfl h')
  refine Ev.bind (markS_ev ws 1 (by omega)) ?_
  refine Ev.cond (fun h' => absurd h' n4) (fun _ => ?_)
  refine Ev.bind (eqInt64S_same r1 m1) (Ev.cond (fun _ => ?_) (fun h' => absurd rfl h'))
  refine Ev.bind (eqInt64S_same r2 m2) (Ev.cond (fun _ => ?_) (fun h' => absurd rfl h'))
  simp only [bne_self_eq_false]
  apply Ev.succ
  simp only [laws_FnExactSplitRun.j1]
  refine Ev.cond (fun h' => absurd h' (by decide)) (fun _ => ?_)
  refine Ev.bind (markInt64S_ev r1 1 (by omega) (by omega) m1) ?_
  refine Ev.bind (markInt64S_ev r2 (1 + (r1.length : Int)) (by omega) (by omega) m2) ?_
  refine Ev.bind (heldInt64S_ev 1 r1.length (by omega) (by omega) m1) ?_
  refine Ev.cond (fun h' => absurd h' n2) (fun _ => ?_)
  refine Ev.bind (heldInt64S_ev (1 + (r1.length : Int)) r2.length (by omega) (by omega) m2) ?_
  refine Ev.cond (fun h' => absurd h' n3) (fun _ => ?_)
  refine Ev.cond (fun _ => ?_) (fun h' => absurd rfl h')
  refine Ev.bind t1 (Ev.bind hi ?_)
  refine Ev.bind (eqInt64S_same r1 m1) (Ev.cond (fun _ => ?_) (fun h' => absurd rfl h'))
  refine Ev.bind (eqInt64S_same r2 m2) (Ev.cond (fun _ => ?_) (fun h' => absurd rfl h'))
  simp only [bne_self_eq_false]
  apply Ev.succ
  simp only [laws_FnExactSplitRun.j2]
  refine Ev.cond (fun h' => absurd h' (by decide)) (fun _ => ?_)
  refine Ev.bind (heldInt64S_ev 1 r1.length (by omega) (by omega) m1) ?_
  refine Ev.cond (fun h' => absurd h' n2) (fun _ => ?_)
  refine Ev.bind (heldInt64S_ev (1 + (r1.length : Int)) r2.length (by omega) (by omega) m2) ?_
  refine Ev.cond (fun h' => absurd h' n3) (fun _ => ?_)
  exact Ev.cond (fun _ => Ev.now _) (fun h' => absurd rfl h')

end Go.Proofs.YtohdepanfnaddaaDoor.Pure
