/- For all branches, steps and bits the program's SlideDeinterleave answers what the reference's does. -/
import Derived.Test.YtckjcighblnnfaaDoorQFnExactSlideDeinterleavex2
import Derived.Test.YtckjcighblnnfaaDoorBase
namespace Go.Proofs.YtckjcighblnnfaaDoor.Pure
open Go.RowKit Go.Proofs.YtckjcighblnnfaaDoor.QFnExactSlideDeinterleave Go.Proofs.YtckjcighblnnfaaDoor.Base Go.Proofs.YtckjcighblnnfaaDoorW.PrintWords Go.Proofs.YtckjcighblnnfaaDoorW.PrintLast Go.Proofs.YtckjcighblnnfaaDoorW.PrintMore
set_option linter.unusedVariables false
set_option linter.unusedSimpArgs false

/-! l00In -/
theorem l00In_eq (a b c : Int) : spec_l00In.f a b c = some (decide (b ≤ a ∧ a ≤ c)) := by
  unfold spec_l00In.f
  by_cases h : b ≤ a
  · simp [h, ge_iff_le]
  · simp [h, ge_iff_le]

/-! within -/
theorem within_eq (a b c : Int) : impl_within.f a b c = some (decide (b ≤ a ∧ a ≤ c)) := by
  unfold impl_within.f
  by_cases h : b ≤ a
  · simp [h, ge_iff_le]
  · simp [h, ge_iff_le]

/-! sides -/
theorem areSides_eq (a b : Int) : impl_areSides.f a b = some (decide (1 ≤ a ∧ a ≤ 20) && decide (1 ≤ b ∧ b ≤ 20)) := by
  unfold impl_areSides.f
  simp only [within_eq, Option.bind_some]
  by_cases h : 1 ≤ a ∧ a ≤ 20
  · simp [h]
  · simp [h]

/-! IsBits -/
theorem trim_bits (s : ByteArray) (h : s.size ≤ 9223372036854775807) : strings_Trim.f s (⟨#[48, 49]⟩ : ByteArray) = some ⟨(Lib.trimS s.data.toList [48, 49]).toArray⟩ := by
  unfold strings_Trim.f
  rw [if_pos ⟨h, by decide, by decide⟩]
theorem areBits_eq (s : ByteArray) (h : s.size ≤ 9223372036854775807) : impl_areBits.f s = some (s.data.toList.all isBitB) := by
  unfold impl_areBits.f
  rw [trim_bits s h, Option.bind_some]
  congr 1
  have e1 : (⟨(Lib.trimS s.data.toList [48, 49]).toArray⟩ : ByteArray).toList = Lib.trimS s.data.toList [48, 49] := by rw [Lib.toList_data]
  rw [e1, Bool.eq_iff_iff, beq_iff_eq, trimS_nil]
  have e2 : (fun b => ([48, 49] : List UInt8).contains b) = isBitB := funext contains_bits
  rw [e2]
theorem IsBits_eq (s : ByteArray) (h : s.size ≤ 9223372036854775807) : impl_IsBits.f s = some (bitsB s) := by
  unfold impl_IsBits.f bitsB
  by_cases h4 : s.size ≤ 400
  · have h4' : (s.size : Int) ≤ 400 := by omega
    simp only [h4', if_true, areBits_eq s h, Option.bind_some, h4, decide_true, Bool.and_true]
  · have h4' : ¬ (s.size : Int) ≤ 400 := by omega
    simp only [h4', if_false, h4, decide_false, Bool.and_false]

/-! strs -/
theorem str_size (l : List Int) : (strOfNums l).size = l.length := by
  show (strOfNums l).data.size = _
  simp [strOfNums]
theorem bt_str {xs : List Int} {k : Nat} (hk : k < xs.length) (h : 0 ≤ xs[k] ∧ xs[k] ≤ 255) : bt (strOfNums xs) (k : Int) = xs[k] := by
  have hk' : k < (strOfNums xs).size := by rw [str_size]; exact hk
  rw [bt_nat _ _ hk']
  have e : (strOfNums xs)[k]'hk' = UInt8.ofNat (xs[k]).toNat := by
    show (strOfNums xs).data[k]'_ = _
    simp [strOfNums]
  rw [e, UInt8.toNat_ofNat']
  omega
theorem all_bits_iff (s : ByteArray) : s.data.toList.all isBitB = true ↔ ∀ k : Nat, k < s.size → (bt s (k : Int) = 48 ∨ bt s (k : Int) = 49) := by
  rw [List.all_eq_true]
  constructor
  · intro h k hk
    rw [bt_nat s k hk]
    refine (isBit_iff _).1 (h _ ?_)
    rw [← data_get hk]; exact List.getElem_mem _
  · intro h b hb
    obtain ⟨k, hk, rfl⟩ := List.mem_iff_getElem.1 hb
    have hk' : k < s.size := by rw [← size_data]; exact hk
    rw [isBit_iff, data_get hk', ← bt_nat s k hk']
    exact h k hk'
theorem str_ext {s t : ByteArray} (h : s.size = t.size) (h2 : ∀ k : Nat, k < s.size → bt s (k : Int) = bt t (k : Int)) : s = t := by
  apply ByteArray.ext
  apply Array.ext
  · exact h
  · intro k h3 h4
    have e := h2 k h3
    rw [bt_nat s k h3, bt_nat t k h4] at e
    exact UInt8.toNat_inj.1 (by exact_mod_cast e)

/-! slideI -/
/-- A slide's result: each bit is taken from so many places before, or is a zero. -/
def slE (s : ByteArray) (d : Nat → Nat) (n : Nat) : Int := if d n ≤ n then bt s ((n - d n : Nat) : Int) else 48
def upD (r c n : Nat) : Nat := n % r * c * r
def downD (r c n : Nat) : Nat := (r - 1 - n % r) * c * r
theorem sl_prod {x c r : Nat} (hx : x ≤ 20) (hc : c ≤ 20) (hr : r ≤ 20) : x * c ≤ 400 ∧ x * c * r ≤ 8000 := by
  have h1 : x * c ≤ 20 * 20 := Nat.mul_le_mul hx hc
  have h2 : x * c * r ≤ 400 * 20 := Nat.mul_le_mul h1 hr
  exact ⟨h1, h2⟩
theorem sl_wrap {x c r : Nat} (hx : x ≤ 20) (hc : c ≤ 20) (hr : r ≤ 20) : wrap64 (wrap64 ((x : Int) * (c : Int)) * (r : Int)) = ((x * c * r : Nat) : Int) := by
  obtain ⟨h1, h2⟩ := sl_prod hx hc hr
  have e1 : (x : Int) * (c : Int) = ((x * c : Nat) : Int) := by push_cast; rfl
  have e2 : ((x * c : Nat) : Int) * (r : Int) = ((x * c * r : Nat) : Int) := by push_cast; rfl
  generalize hp : x * c = p at *
  generalize hq : p * r = q at *
  have w1 : wrap64 (p : Int) = (p : Int) := w64 (by omega) (by omega)
  have w2 : wrap64 (q : Int) = (q : Int) := w64 (by omega) (by omega)
  rw [e1, w1, e2, w2]
theorem tmod_nat (n r : Nat) : Int.tmod (n : Int) (r : Int) = ((n % r : Nat) : Int) := by rw [Int.tmod_eq_emod_of_nonneg (by omega)]; rfl
theorem upD_le {r c n : Nat} (hr : 1 ≤ r) (hr2 : r ≤ 20) (hc : c ≤ 20) : upD r c n ≤ 8000 := by
  have := Nat.mod_lt n (show r > 0 from hr)
  exact (sl_prod (by omega) hc hr2).2
theorem downD_le {r c n : Nat} (hr2 : r ≤ 20) (hc : c ≤ 20) : downD r c n ≤ 8000 := (sl_prod (by omega) hc hr2).2
def sidesB (a b : Int) : Bool := decide (1 ≤ a ∧ a ≤ 20) && decide (1 ≤ b ∧ b ≤ 20)
theorem sidesB_nat {a b : Int} (h : sidesB a b = true) : ∃ r c : Nat, a = (r : Int) ∧ b = (c : Int) ∧ 1 ≤ r ∧ r ≤ 20 ∧ 1 ≤ c ∧ c ≤ 20 := by
  unfold sidesB at h
  rw [Bool.and_eq_true] at h
  have h1 := of_decide_eq_true h.1
  have h2 := of_decide_eq_true h.2
  exact ⟨a.toNat, b.toNat, by omega, by omega, by omega, by omega, by omega, by omega⟩
def slAns (D : Nat → Nat → Nat → Nat) (a b : Int) (s : ByteArray) : ByteArray × Bool := if (sidesB a b && bitsB s) = true then (strOfNums (pre (slE s (D a.toNat b.toNat)) s.size), true) else (⟨#[]⟩, false)
theorem bits_small {s : ByteArray} (h : bitsB s = true) : s.size ≤ 400 := by
  unfold bitsB at h
  rw [Bool.and_eq_true] at h
  exact of_decide_eq_true h.2

/-! slideD -/
theorem fromD_eq {r c n : Nat} (hr : 1 ≤ r) (hr2 : r ≤ 20) (hc : c ≤ 20) (hn : n ≤ 1000) : impl_SlideDeinterleave_slide.from_ (r : Int) (c : Int) (n : Int) = (n : Int) - ((downD r c n : Nat) : Int) := by
  have hm := Nat.mod_lt n (show r > 0 from hr)
  have hd := downD_le (n := n) hr2 hc
  unfold impl_SlideDeinterleave_slide.from_
  rw [tmod_nat]
  have e0 : wrap64 (wrap64 ((r : Int) - 1) - ((n % r : Nat) : Int)) = ((r - 1 - n % r : Nat) : Int) := by
    have w1 : wrap64 ((r : Int) - 1) = (r : Int) - 1 := w64 (by omega) (by omega)
    generalize n % r = m at hm ⊢
    have w2 : wrap64 ((r : Int) - 1 - (m : Int)) = (r : Int) - 1 - (m : Int) := w64 (by omega) (by omega)
    rw [w1, w2]; omega
  rw [e0, sl_wrap (by omega) hc hr2]
  show wrap64 ((n : Int) - ((downD r c n : Nat) : Int)) = _
  exact w64 (by omega) (by omega)
theorem sl_down {r c : Nat} (hr : 1 ≤ r) (hr2 : r ≤ 20) (hc : c ≤ 20) (s : ByteArray) (hs : s.size ≤ 1000) : ∀ (d n : Nat), n + d = s.size →
    Ev (fun k => impl_SlideDeinterleave_slide.l0 k (r : Int) (c : Int) s (pre (slE s (downD r c)) n) (n : Int)) (strOfNums (pre (slE s (downD r c)) s.size)) := by
  intro d
  induction d with
  | zero =>
    intro n h
    obtain rfl : n = s.size := by omega
    have c1 : ¬ (s.size : Int) < (s.size : Int) := Int.lt_irrefl _
    apply Ev.succ
    simp only [impl_SlideDeinterleave_slide.l0]
    exact Ev.cond (fun h' => absurd h' c1) (fun _ => Ev.now _)
  | succ d ih =>
    intro n h
    have c1 : (n : Int) < (s.size : Int) := by omega
    have c2 : ¬ (r : Int) = 0 := by omega
    have c3 : (pre (slE s (downD r c)) n).length < 140737488355328 := by rw [pre_length]; omega
    have hw := w64_succ (show n < 9223372036854775807 by omega)
    have h3 := ih (n + 1) (by omega)
    rw [pre_succ] at h3
    have e := fromD_eq (n := n) hr hr2 hc (by omega)
    apply Ev.succ
    simp only [impl_SlideDeinterleave_slide.l0, e, hw]
    unfold slE at h3
    generalize downD r c n = D at *
    refine Ev.cond (fun _ => ?_) (fun h' => absurd c1 h')
    refine Ev.cond (fun h' => absurd h' c2) (fun _ => ?_)
    by_cases hD : D ≤ n
    · have e2 : (n : Int) - (D : Int) = ((n - D : Nat) : Int) := by omega
      have c4 : ((n - D : Nat) : Int) < (s.size : Int) := by omega
      have c5 : ((n - D : Nat) : Int) ≥ 0 := by omega
      rw [if_pos hD] at h3
      rw [e2]
      refine Ev.cond (fun _ => ?_) (fun h' => absurd c5 h')
      refine Ev.cond (fun _ => ?_) (fun h' => absurd c4 h')
      exact Ev.cond (fun _ => h3) (fun h' => absurd c3 h')
    · have c5 : ¬ (n : Int) - (D : Int) ≥ 0 := by omega
      rw [if_neg hD] at h3
      refine Ev.cond (fun h' => absurd h' c5) (fun _ => ?_)
      exact Ev.cond (fun _ => h3) (fun h' => absurd c3 h')
theorem SId_ev (a b : Int) (s : ByteArray) (hn : s.size ≤ 1099511627776) : Ev (fun k => impl_SlideDeinterleave.f k a b s) (slAns downD a b s) := by
  unfold impl_SlideDeinterleave.f slAns
  refine Ev.bind (Ev.const (areSides_eq a b)) ?_
  show Ev (fun k => if sidesB a b = true then _ else _) _
  by_cases h1 : sidesB a b = true
  · rw [h1]
    refine Ev.cond (fun _ => ?_) (fun h' => absurd (by trivial) h')
    refine Ev.bind (Ev.const (IsBits_eq s (by omega))) ?_
    by_cases h2 : bitsB s = true
    · rw [h2]
      refine Ev.cond (fun _ => ?_) (fun h' => absurd (by trivial) h')
      rw [if_pos (by decide)]
      obtain ⟨r, c, rfl, rfl, hr, hr2, hc, hc2⟩ := sidesB_nat h1
      have hs := bits_small h2
      have h3 := sl_down hr hr2 hc2 s (by omega) s.size 0 (by omega)
      rw [Int.toNat_natCast, Int.toNat_natCast]
      exact Ev.bind h3 (Ev.now _)
    · have h2' := eq_false_of_ne_true h2
      rw [h2', if_neg (by decide)]
      exact Ev.cond (fun h' => absurd h' (by decide)) (fun _ => Ev.now _)
  · have h1' := eq_false_of_ne_true h1
    rw [h1', if_neg (by simp)]
    exact Ev.cond (fun h' => absurd h' (by decide)) (fun _ => Ev.now _)

/-! l01Bits -/
theorem l01Bits_l0 (s : ByteArray) (hn : s.size ≤ 1099511627776) : ∀ d n, n + d = s.size → Ev (fun k => spec_l01Bits.l0 k s (n : Int)) ((s.data.toList.drop n).all isBitB && decide (s.size ≤ 400)) := by
  intro d
  induction d with
  | zero =>
    intro n h
    apply Ev.succ
    have h1 : ¬ ((n : Int) < (s.size : Int)) := by omega
    have h2 : s.data.toList.drop n = [] := List.drop_eq_nil_of_le (by rw [size_data]; omega)
    have h3 : ((s.size : Int) ≤ 400) = (s.size ≤ 400) := propext ⟨fun h => by omega, fun h => by omega⟩
    simp only [spec_l01Bits.l0, h1, if_false, h2, h3]
    exact Ev.now _
  | succ d ih =>
    intro n h
    apply Ev.succ
    have hl : n < s.size := by omega
    have h1 : (n : Int) < (s.size : Int) := by omega
    have h2 : (0 : Int) ≤ (n : Int) := by omega
    have h3 := ih (n + 1) (by omega)
    rw [drop_data hl, List.all_cons]
    have hb := bt_nat s n hl
    have hi := isBit_iff (s[n])
    rw [← hb] at hi
    simp only [spec_l01Bits.l0, h1, h2, if_true, w64_succ (show n < 9223372036854775807 by omega)]
    by_cases c1 : bt s (n : Int) = 48
    · rw [hi.2 (.inl c1), Bool.true_and]
      simp only [c1, if_true]; exact h3
    · by_cases c2 : bt s (n : Int) = 49
      · rw [hi.2 (.inr c2), Bool.true_and]
        simp only [c2, if_true, Int.reduceEq, if_false]; exact h3
      · have hf : isBitB (s[n]) = false := by
          rw [Bool.eq_false_iff]; intro hc
          rcases hi.1 hc with hc | hc
          · exact c1 hc
          · exact c2 hc
        simp only [hf, Bool.false_and, c1, c2, if_false]
        exact Ev.now _
theorem l01Bits_ev (s : ByteArray) (hn : s.size ≤ 1099511627776) : Ev (fun k => spec_l01Bits.f k s) (bitsB s) := by
  have h := l01Bits_l0 s hn s.size 0 (by omega)
  exact h

theorem l08Slide_eq (a b : Int) : spec_l08Slide.f a b = some (sidesB a b) := by
  unfold spec_l08Slide.f sidesB
  simp only [l00In_eq, Option.bind_some]
  by_cases h : 1 ≤ a ∧ a ≤ 20
  · simp [h]
  · simp [h]
theorem slS {r c : Nat} (hr : 1 ≤ r) (hr2 : r ≤ 20) (hc : c ≤ 20) (s : ByteArray) (hs : s.size ≤ 1000) : ∀ (d n : Nat), n + d = s.size →
    Ev (fun k => spec_l08Later.l0 k (r : Int) (c : Int) s false (pre (slE s (downD r c)) n) (n : Int)) (strOfNums (pre (slE s (downD r c)) s.size)) := by
  intro d
  induction d with
  | zero =>
    intro n h
    obtain rfl : n = s.size := by omega
    have c1 : ¬ (s.size : Int) < (s.size : Int) := Int.lt_irrefl _
    apply Ev.succ
    simp only [spec_l08Later.l0]
    exact Ev.cond (fun h' => absurd h' c1) (fun _ => Ev.now _)
  | succ d ih =>
    intro n h
    have c1 : (n : Int) < (s.size : Int) := by omega
    have c2 : ¬ (r : Int) = 0 := by omega
    have c3 : (pre (slE s (downD r c)) n).length < 140737488355328 := by rw [pre_length]; omega
    have hw := w64_succ (show n < 9223372036854775807 by omega)
    have h3 := ih (n + 1) (by omega)
    rw [pre_succ] at h3
    have e := fromD_eq (n := n) hr hr2 hc (by omega)
    unfold impl_SlideDeinterleave_slide.from_ at e
    apply Ev.succ
    simp only [spec_l08Later.l0, e, hw]
    unfold slE at h3
    generalize downD r c n = D at *
    refine Ev.cond (fun _ => ?_) (fun h' => absurd c1 h')
    refine Ev.cond (fun h' => absurd h' c2) (fun _ => ?_)
    refine Ev.cond (fun h' => absurd h' (by decide)) (fun _ => ?_)
    by_cases hD : D ≤ n
    · have e2 : (n : Int) - (D : Int) = ((n - D : Nat) : Int) := by omega
      have c4 : ((n - D : Nat) : Int) < (s.size : Int) := by omega
      have c5 : ((n - D : Nat) : Int) ≥ 0 := by omega
      rw [if_pos hD] at h3
      rw [e2]
      refine Ev.cond (fun _ => ?_) (fun h' => absurd c5 h')
      refine Ev.cond (fun _ => ?_) (fun h' => absurd c5 h')
      refine Ev.cond (fun _ => ?_) (fun h' => absurd c4 h')
      exact Ev.cond (fun _ => h3) (fun h' => absurd c3 h')
    · have c5 : ¬ (n : Int) - (D : Int) ≥ 0 := by omega
      rw [if_neg hD] at h3
      refine Ev.cond (fun h' => absurd h' c5) (fun _ => ?_)
      exact Ev.cond (fun _ => h3) (fun h' => absurd c3 h')
theorem SS_ev (a b : Int) (s : ByteArray) (hn : s.size ≤ 1099511627776) : Ev (fun k => spec_SlideDeinterleave.f k a b s) (slAns downD a b s) := by
  unfold spec_SlideDeinterleave.f slAns
  refine Ev.bind (Ev.const (l08Slide_eq a b)) ?_
  by_cases h1 : sidesB a b = true
  · rw [h1]
    refine Ev.cond (fun _ => ?_) (fun h' => absurd (by trivial) h')
    refine Ev.bind (l01Bits_ev s hn) ?_
    by_cases h2 : bitsB s = true
    · rw [h2]
      refine Ev.cond (fun _ => ?_) (fun h' => absurd (by trivial) h')
      rw [if_pos (by decide)]
      obtain ⟨r, c, rfl, rfl, hr, hr2, hc, hc2⟩ := sidesB_nat h1
      have hs := bits_small h2
      have h3 := slS hr hr2 hc2 s (by omega) s.size 0 (by omega)
      rw [Int.toNat_natCast, Int.toNat_natCast]
      exact Ev.bind h3 (Ev.now _)
    · have h2' := eq_false_of_ne_true h2
      rw [h2', if_neg (by decide)]
      exact Ev.cond (fun h' => absurd h' (by decide)) (fun _ => Ev.now _)
  · have h1' := eq_false_of_ne_true h1
    rw [h1', if_neg (by simp)]
    exact Ev.cond (fun h' => absurd h' (by decide)) (fun _ => Ev.now _)
theorem FnExactSlideDeinterleave : laws_FnExactSlideDeinterleave.Pure := by
  intro a b s ha hb hs
  refine Ev.rounds ?_
  unfold laws_FnExactSlideDeinterleave.f
  by_cases hl : (s.size : Int) > 1048576
  · simp only [hl, if_true]; exact Ev.now _
  simp only [hl, if_false]
  refine Ev.bind (SS_ev a b s (by omega)) (Ev.bind (SId_ev a b s (by omega)) ?_)
  simp only [if_true, bne_self_eq_false, Bool.false_eq_true, if_false]
  exact Ev.now _

end Go.Proofs.YtckjcighblnnfaaDoor.Pure
