/- For all bytes sliding the drawn bits there and back makes them later by the told delay. -/
import Derived.Test.YtckjcighblnnfaaDoorQFnSlidx2
import Derived.Test.YtckjcighblnnfaaDoorBase
namespace Go.Proofs.YtckjcighblnnfaaDoor.Pure
open Go.RowKit Go.Proofs.YtckjcighblnnfaaDoor.QFnSlid Go.Proofs.YtckjcighblnnfaaDoor.Base Go.Proofs.YtckjcighblnnfaaDoorW.PrintWords Go.Proofs.YtckjcighblnnfaaDoorW.PrintLast Go.Proofs.YtckjcighblnnfaaDoorW.PrintMore
set_option linter.unusedVariables false
set_option linter.unusedSimpArgs false

/-! l00In -/

/-! within -/
theorem within_eq (a b c : Int) : impl_within.f a b c = some (decide (b ≤ a ∧ a ≤ c)) := by
  unfold impl_within.f
  by_cases h : b ≤ a
  · simp [h, ge_iff_le]
  · simp [h, ge_iff_le]

/-! sides -/
theorem areSides_eq (a b : Int) : impl_areSides.f a b = some (decide (1 ≤ a ∧ a ≤ 20) && decide (1 ≤ b ∧ b ≤ 20)) := by
  unfold impl_areSides.f
  simp only [within_eq, Option.bind_some]
  by_cases h : 1 ≤ a ∧ a ≤ 20
  · simp [h]
  · simp [h]

/-! IsBits -/
theorem trim_bits (s : ByteArray) (h : s.size ≤ 9223372036854775807) : strings_Trim.f s (⟨#[48, 49]⟩ : ByteArray) = some ⟨(Lib.trimS s.data.toList [48, 49]).toArray⟩ := by
  unfold strings_Trim.f
  rw [if_pos ⟨h, by decide, by decide⟩]
theorem areBits_eq (s : ByteArray) (h : s.size ≤ 9223372036854775807) : impl_areBits.f s = some (s.data.toList.all isBitB) := by
  unfold impl_areBits.f
  rw [trim_bits s h, Option.bind_some]
  congr 1
  have e1 : (⟨(Lib.trimS s.data.toList [48, 49]).toArray⟩ : ByteArray).toList = Lib.trimS s.data.toList [48, 49] := by rw [Lib.toList_data]
  rw [e1, Bool.eq_iff_iff, beq_iff_eq, trimS_nil]
  have e2 : (fun b => ([48, 49] : List UInt8).contains b) = isBitB := funext contains_bits
  rw [e2]
theorem IsBits_eq (s : ByteArray) (h : s.size ≤ 9223372036854775807) : impl_IsBits.f s = some (bitsB s) := by
  unfold impl_IsBits.f bitsB
  by_cases h4 : s.size ≤ 400
  · have h4' : (s.size : Int) ≤ 400 := by omega
    simp only [h4', if_true, areBits_eq s h, Option.bind_some, h4, decide_true, Bool.and_true]
  · have h4' : ¬ (s.size : Int) ≤ 400 := by omega
    simp only [h4', if_false, h4, decide_false, Bool.and_false]

/-! strs -/
theorem str_size (l : List Int) : (strOfNums l).size = l.length := by
  show (strOfNums l).data.size = _
  simp [strOfNums]
theorem bt_str {xs : List Int} {k : Nat} (hk : k < xs.length) (h : 0 ≤ xs[k] ∧ xs[k] ≤ 255) : bt (strOfNums xs) (k : Int) = xs[k] := by
  have hk' : k < (strOfNums xs).size := by rw [str_size]; exact hk
  rw [bt_nat _ _ hk']
  have e : (strOfNums xs)[k]'hk' = UInt8.ofNat (xs[k]).toNat := by
    show (strOfNums xs).data[k]'_ = _
    simp [strOfNums]
  rw [e, UInt8.toNat_ofNat']
  omega
theorem all_bits_iff (s : ByteArray) : s.data.toList.all isBitB = true ↔ ∀ k : Nat, k < s.size → (bt s (k : Int) = 48 ∨ bt s (k : Int) = 49) := by
  rw [List.all_eq_true]
  constructor
  · intro h k hk
    rw [bt_nat s k hk]
    refine (isBit_iff _).1 (h _ ?_)
    rw [← data_get hk]; exact List.getElem_mem _
  · intro h b hb
    obtain ⟨k, hk, rfl⟩ := List.mem_iff_getElem.1 hb
    have hk' : k < s.size := by rw [← size_data]; exact hk
    rw [isBit_iff, data_get hk', ← bt_nat s k hk']
    exact h k hk'
theorem str_ext {s t : ByteArray} (h : s.size = t.size) (h2 : ∀ k : Nat, k < s.size → bt s (k : Int) = bt t (k : Int)) : s = t := by
  apply ByteArray.ext
  apply Array.ext
  · exact h
  · intro k h3 h4
    have e := h2 k h3
    rw [bt_nat s k h3, bt_nat t k h4] at e
    exact UInt8.toNat_inj.1 (by exact_mod_cast e)

/-! slideI -/
/-- A slide's result: each bit is taken from so many places before, or is a zero. -/
def slE (s : ByteArray) (d : Nat → Nat) (n : Nat) : Int := if d n ≤ n then bt s ((n - d n : Nat) : Int) else 48
def upD (r c n : Nat) : Nat := n % r * c * r
def downD (r c n : Nat) : Nat := (r - 1 - n % r) * c * r
theorem sl_prod {x c r : Nat} (hx : x ≤ 20) (hc : c ≤ 20) (hr : r ≤ 20) : x * c ≤ 400 ∧ x * c * r ≤ 8000 := by
  have h1 : x * c ≤ 20 * 20 := Nat.mul_le_mul hx hc
  have h2 : x * c * r ≤ 400 * 20 := Nat.mul_le_mul h1 hr
  exact ⟨h1, h2⟩
theorem sl_wrap {x c r : Nat} (hx : x ≤ 20) (hc : c ≤ 20) (hr : r ≤ 20) : wrap64 (wrap64 ((x : Int) * (c : Int)) * (r : Int)) = ((x * c * r : Nat) : Int) := by
  obtain ⟨h1, h2⟩ := sl_prod hx hc hr
  have e1 : (x : Int) * (c : Int) = ((x * c : Nat) : Int) := by push_cast; rfl
  have e2 : ((x * c : Nat) : Int) * (r : Int) = ((x * c * r : Nat) : Int) := by push_cast; rfl
  generalize hp : x * c = p at *
  generalize hq : p * r = q at *
  have w1 : wrap64 (p : Int) = (p : Int) := w64 (by omega) (by omega)
  have w2 : wrap64 (q : Int) = (q : Int) := w64 (by omega) (by omega)
  rw [e1, w1, e2, w2]
theorem tmod_nat (n r : Nat) : Int.tmod (n : Int) (r : Int) = ((n % r : Nat) : Int) := by rw [Int.tmod_eq_emod_of_nonneg (by omega)]; rfl
theorem upD_le {r c n : Nat} (hr : 1 ≤ r) (hr2 : r ≤ 20) (hc : c ≤ 20) : upD r c n ≤ 8000 := by
  have := Nat.mod_lt n (show r > 0 from hr)
  exact (sl_prod (by omega) hc hr2).2
theorem downD_le {r c n : Nat} (hr2 : r ≤ 20) (hc : c ≤ 20) : downD r c n ≤ 8000 := (sl_prod (by omega) hc hr2).2
def sidesB (a b : Int) : Bool := decide (1 ≤ a ∧ a ≤ 20) && decide (1 ≤ b ∧ b ≤ 20)
theorem sidesB_nat {a b : Int} (h : sidesB a b = true) : ∃ r c : Nat, a = (r : Int) ∧ b = (c : Int) ∧ 1 ≤ r ∧ r ≤ 20 ∧ 1 ≤ c ∧ c ≤ 20 := by
  unfold sidesB at h
  rw [Bool.and_eq_true] at h
  have h1 := of_decide_eq_true h.1
  have h2 := of_decide_eq_true h.2
  exact ⟨a.toNat, b.toNat, by omega, by omega, by omega, by omega, by omega, by omega⟩
def slAns (D : Nat → Nat → Nat → Nat) (a b : Int) (s : ByteArray) : ByteArray × Bool := if (sidesB a b && bitsB s) = true then (strOfNums (pre (slE s (D a.toNat b.toNat)) s.size), true) else (⟨#[]⟩, false)
theorem bits_small {s : ByteArray} (h : bitsB s = true) : s.size ≤ 400 := by
  unfold bitsB at h
  rw [Bool.and_eq_true] at h
  exact of_decide_eq_true h.2

/-! slideU -/
theorem fromU_eq {r c n : Nat} (hr : 1 ≤ r) (hr2 : r ≤ 20) (hc : c ≤ 20) (hn : n ≤ 1000) : impl_SlideInterleave_slide.from_ (r : Int) (c : Int) (n : Int) = (n : Int) - ((upD r c n : Nat) : Int) := by
  have hm := Nat.mod_lt n (show r > 0 from hr)
  have hd := upD_le (n := n) hr hr2 hc
  unfold impl_SlideInterleave_slide.from_
  rw [tmod_nat, sl_wrap (by omega) hc hr2]
  show wrap64 ((n : Int) - ((upD r c n : Nat) : Int)) = _
  exact w64 (by omega) (by omega)
theorem sl_up {r c : Nat} (hr : 1 ≤ r) (hr2 : r ≤ 20) (hc : c ≤ 20) (s : ByteArray) (hs : s.size ≤ 1000) : ∀ (d n : Nat), n + d = s.size →
    Ev (fun k => impl_SlideInterleave_slide.l0 k (r : Int) (c : Int) s (pre (slE s (upD r c)) n) (n : Int)) (strOfNums (pre (slE s (upD r c)) s.size)) := by
  intro d
  induction d with
  | zero =>
    intro n h
    obtain rfl : n = s.size := by omega
    have c1 : ¬ (s.size : Int) < (s.size : Int) := Int.lt_irrefl _
    apply Ev.succ
    simp only [impl_SlideInterleave_slide.l0]
    exact Ev.cond (fun h' => absurd h' c1) (fun _ => Ev.now _)
  | succ d ih =>
    intro n h
    have c1 : (n : Int) < (s.size : Int) := by omega
    have c2 : ¬ (r : Int) = 0 := by omega
    have c3 : (pre (slE s (upD r c)) n).length < 140737488355328 := by rw [pre_length]; omega
    have hw := w64_succ (show n < 9223372036854775807 by omega)
    have h3 := ih (n + 1) (by omega)
    rw [pre_succ] at h3
    have e := fromU_eq (n := n) hr hr2 hc (by omega)
    apply Ev.succ
    simp only [impl_SlideInterleave_slide.l0, e, hw]
    unfold slE at h3
    generalize upD r c n = D at *
    refine Ev.cond (fun _ => ?_) (fun h' => absurd c1 h')
    refine Ev.cond (fun h' => absurd h' c2) (fun _ => ?_)
    by_cases hD : D ≤ n
    · have e2 : (n : Int) - (D : Int) = ((n - D : Nat) : Int) := by omega
      have c4 : ((n - D : Nat) : Int) < (s.size : Int) := by omega
      have c5 : ((n - D : Nat) : Int) ≥ 0 := by omega
      rw [if_pos hD] at h3
      rw [e2]
      refine Ev.cond (fun _ => ?_) (fun h' => absurd c5 h')
      refine Ev.cond (fun _ => ?_) (fun h' => absurd c4 h')
      exact Ev.cond (fun _ => h3) (fun h' => absurd c3 h')
    · have c5 : ¬ (n : Int) - (D : Int) ≥ 0 := by omega
      rw [if_neg hD] at h3
      refine Ev.cond (fun h' => absurd h' c5) (fun _ => ?_)
      exact Ev.cond (fun _ => h3) (fun h' => absurd c3 h')
theorem SIu_ev (a b : Int) (s : ByteArray) (hn : s.size ≤ 1099511627776) : Ev (fun k => impl_SlideInterleave.f k a b s) (slAns upD a b s) := by
  unfold impl_SlideInterleave.f slAns
  refine Ev.bind (Ev.const (areSides_eq a b)) ?_
  show Ev (fun k => if sidesB a b = true then _ else _) _
  by_cases h1 : sidesB a b = true
  · rw [h1]
    refine Ev.cond (fun _ => ?_) (fun h' => absurd (by trivial) h')
    refine Ev.bind (Ev.const (IsBits_eq s (by omega))) ?_
    by_cases h2 : bitsB s = true
    · rw [h2]
      refine Ev.cond (fun _ => ?_) (fun h' => absurd (by trivial) h')
      rw [if_pos (by decide)]
      obtain ⟨r, c, rfl, rfl, hr, hr2, hc, hc2⟩ := sidesB_nat h1
      have hs := bits_small h2
      have h3 := sl_up hr hr2 hc2 s (by omega) s.size 0 (by omega)
      rw [Int.toNat_natCast, Int.toNat_natCast]
      exact Ev.bind h3 (Ev.now _)
    · have h2' := eq_false_of_ne_true h2
      rw [h2', if_neg (by decide)]
      exact Ev.cond (fun h' => absurd h' (by decide)) (fun _ => Ev.now _)
  · have h1' := eq_false_of_ne_true h1
    rw [h1', if_neg (by simp)]
    exact Ev.cond (fun h' => absurd h' (by decide)) (fun _ => Ev.now _)

/-! slideD -/
theorem fromD_eq {r c n : Nat} (hr : 1 ≤ r) (hr2 : r ≤ 20) (hc : c ≤ 20) (hn : n ≤ 1000) : impl_SlideDeinterleave_slide.from_ (r : Int) (c : Int) (n : Int) = (n : Int) - ((downD r c n : Nat) : Int) := by
  have hm := Nat.mod_lt n (show r > 0 from hr)
  have hd := downD_le (n := n) hr2 hc
  unfold impl_SlideDeinterleave_slide.from_
  rw [tmod_nat]
  have e0 : wrap64 (wrap64 ((r : Int) - 1) - ((n % r : Nat) : Int)) = ((r - 1 - n % r : Nat) : Int) := by
    have w1 : wrap64 ((r : Int) - 1) = (r : Int) - 1 := w64 (by omega) (by omega)
    generalize n % r = m at hm ⊢
    have w2 : wrap64 ((r : Int) - 1 - (m : Int)) = (r : Int) - 1 - (m : Int) := w64 (by omega) (by omega)
    rw [w1, w2]; omega
  rw [e0, sl_wrap (by omega) hc hr2]
  show wrap64 ((n : Int) - ((downD r c n : Nat) : Int)) = _
  exact w64 (by omega) (by omega)
theorem sl_down {r c : Nat} (hr : 1 ≤ r) (hr2 : r ≤ 20) (hc : c ≤ 20) (s : ByteArray) (hs : s.size ≤ 1000) : ∀ (d n : Nat), n + d = s.size →
    Ev (fun k => impl_SlideDeinterleave_slide.l0 k (r : Int) (c : Int) s (pre (slE s (downD r c)) n) (n : Int)) (strOfNums (pre (slE s (downD r c)) s.size)) := by
  intro d
  induction d with
  | zero =>
    intro n h
    obtain rfl : n = s.size := by omega
    have c1 : ¬ (s.size : Int) < (s.size : Int) := Int.lt_irrefl _
    apply Ev.succ
    simp only [impl_SlideDeinterleave_slide.l0]
    exact Ev.cond (fun h' => absurd h' c1) (fun _ => Ev.now _)
  | succ d ih =>
    intro n h
    have c1 : (n : Int) < (s.size : Int) := by omega
    have c2 : ¬ (r : Int) = 0 := by omega
    have c3 : (pre (slE s (downD r c)) n).length < 140737488355328 := by rw [pre_length]; omega
    have hw := w64_succ (show n < 9223372036854775807 by omega)
    have h3 := ih (n + 1) (by omega)
    rw [pre_succ] at h3
    have e := fromD_eq (n := n) hr hr2 hc (by omega)
    apply Ev.succ
    simp only [impl_SlideDeinterleave_slide.l0, e, hw]
    unfold slE at h3
    generalize downD r c n = D at *
    refine Ev.cond (fun _ => ?_) (fun h' => absurd c1 h')
    refine Ev.cond (fun h' => absurd h' c2) (fun _ => ?_)
    by_cases hD : D ≤ n
    · have e2 : (n : Int) - (D : Int) = ((n - D : Nat) : Int) := by omega
      have c4 : ((n - D : Nat) : Int) < (s.size : Int) := by omega
      have c5 : ((n - D : Nat) : Int) ≥ 0 := by omega
      rw [if_pos hD] at h3
      rw [e2]
      refine Ev.cond (fun _ => ?_) (fun h' => absurd c5 h')
      refine Ev.cond (fun _ => ?_) (fun h' => absurd c4 h')
      exact Ev.cond (fun _ => h3) (fun h' => absurd c3 h')
    · have c5 : ¬ (n : Int) - (D : Int) ≥ 0 := by omega
      rw [if_neg hD] at h3
      refine Ev.cond (fun h' => absurd h' c5) (fun _ => ?_)
      exact Ev.cond (fun _ => h3) (fun h' => absurd c3 h')
theorem SId_ev (a b : Int) (s : ByteArray) (hn : s.size ≤ 1099511627776) : Ev (fun k => impl_SlideDeinterleave.f k a b s) (slAns downD a b s) := by
  unfold impl_SlideDeinterleave.f slAns
  refine Ev.bind (Ev.const (areSides_eq a b)) ?_
  show Ev (fun k => if sidesB a b = true then _ else _) _
  by_cases h1 : sidesB a b = true
  · rw [h1]
    refine Ev.cond (fun _ => ?_) (fun h' => absurd (by trivial) h')
    refine Ev.bind (Ev.const (IsBits_eq s (by omega))) ?_
    by_cases h2 : bitsB s = true
    · rw [h2]
      refine Ev.cond (fun _ => ?_) (fun h' => absurd (by trivial) h')
      rw [if_pos (by decide)]
      obtain ⟨r, c, rfl, rfl, hr, hr2, hc, hc2⟩ := sidesB_nat h1
      have hs := bits_small h2
      have h3 := sl_down hr hr2 hc2 s (by omega) s.size 0 (by omega)
      rw [Int.toNat_natCast, Int.toNat_natCast]
      exact Ev.bind h3 (Ev.now _)
    · have h2' := eq_false_of_ne_true h2
      rw [h2', if_neg (by decide)]
      exact Ev.cond (fun h' => absurd h' (by decide)) (fun _ => Ev.now _)
  · have h1' := eq_false_of_ne_true h1
    rw [h1', if_neg (by simp)]
    exact Ev.cond (fun h' => absurd h' (by decide)) (fun _ => Ev.now _)

/-! r8 -/
theorem wf_u8 {x : Int} (h : (Lit.int .u8 x).wf = true) : 0 ≤ x ∧ x ≤ 255 := by
  have h1 : decide (IntKind.min .u8 ≤ x) = true ∧ decide (x ≤ IntKind.max .u8) = true := by
    simpa [Lit.wf] using h
  obtain ⟨ha, hb⟩ := h1
  have ha := of_decide_eq_true ha
  have hb := of_decide_eq_true hb
  have e1 : IntKind.min .u8 = 0 := by decide
  have e2 : IntKind.max .u8 = 255 := by decide
  rw [e1] at ha
  rw [e2] at hb
  exact ⟨ha, hb⟩
theorem r8At_eq (l : List Int) (h : ∀ x ∈ l, (Lit.int .u8 x).wf = true) (a n : Int) (ha : 0 ≤ a) (hn : 1 ≤ n) : ∃ t, laws_r8At.f l a n = some t ∧ 0 ≤ t ∧ t < n := by
  unfold laws_r8At.f
  by_cases h1 : n ≤ 1
  · exact ⟨0, by rw [if_pos h1], by omega, by omega⟩
  by_cases h2 : a ≥ (l.length : Int)
  · exact ⟨0, by rw [if_neg h1, if_pos h2], by omega, by omega⟩
  obtain ⟨m, rfl⟩ := Int.eq_ofNat_of_zero_le ha
  have hm : m < l.length := by omega
  have hx := wf_u8 (h _ (rd_mem hm))
  have h0 : 0 ≤ Int.tmod (rd l (m : Int)) n := Int.tmod_nonneg _ hx.1
  have h3 : Int.tmod (rd l (m : Int)) n < n := Int.tmod_lt_of_pos _ (by omega)
  refine ⟨Int.tmod (rd l (m : Int)) n, ?_, h0, h3⟩
  rw [if_neg h1, if_neg h2, if_pos (by omega), if_pos (by omega), if_neg (by omega), w64 (by omega) (by omega)]
theorem r8Long_eq (l m : List Int) : ∃ b, laws_r8Long.f l m = some b ∧ (b = false → l.length ≤ 48 ∧ m.length ≤ 48) := by
  unfold laws_r8Long.f
  by_cases h : (l.length : Int) > 48
  · exact ⟨true, by rw [if_pos h], by simp⟩
  · refine ⟨decide ((m.length : Int) > 48), by rw [if_neg h], fun h2 => ?_⟩
    have h3 := of_decide_eq_false h2
    omega

/-! src -/
theorem u64_mod (z : Int) : IntKind.u64.wrap z = z % 18446744073709551616 := by simp [IntKind.wrap, IntKind.bits, IntKind.signed]
theorem u64_and255 (z : Int) : 0 ≤ wrap64 (Go.bits .and .u64 ((IntKind.u64.wrap z) / 1099511627776) 255) ∧ wrap64 (Go.bits .and .u64 ((IntKind.u64.wrap z) / 1099511627776) 255) ≤ 255 := by
  obtain ⟨Y, hY⟩ := Int.eq_ofNat_of_zero_le (show 0 ≤ (IntKind.u64.wrap z) / 1099511627776 by rw [u64_mod]; omega)
  have hlt : Y < 18446744073709551616 := by rw [u64_mod] at hY; omega
  rw [hY]
  have h2 : Go.bits .and .u64 (Y : Int) 255 = ((Y &&& 255 : Nat) : Int) := bits_and_u64_nat Y 255 hlt (by decide)
  rw [h2]
  have h3 : Y &&& 255 ≤ 255 := Nat.and_le_right
  rw [w64 (by omega) (by omega)]
  omega
theorem src_next (l : List Int) (h : ∀ x ∈ l, (Lit.int .u8 x).wf = true) (p : Nat) (hs : Int) (hp : p < 1099511627776) : ∃ v hs', spec_l00Src_next.f l (p : Int) hs = some (v, ((p + 1 : Nat) : Int), hs') ∧ 0 ≤ v ∧ v ≤ 255 := by
  have hw : wrap64 ((p : Int) + 1) = ((p + 1 : Nat) : Int) := w64_succ (by omega)
  unfold spec_l00Src_next.f
  by_cases h1 : p < l.length
  · have hx := wf_u8 (h _ (rd_mem h1))
    rw [if_pos (show (p : Int) < (l.length : Int) by omega), if_pos (show (0 : Int) ≤ (p : Int) by omega), hw, if_pos (show ((p + 1 : Nat) : Int) ≤ (l.length : Int) by omega)]
    refine ⟨_, _, rfl, ?_⟩
    rw [w64 (by omega) (by omega)]
    exact hx
  · rw [if_neg (show ¬ (p : Int) < (l.length : Int) by omega), hw, if_neg (show ¬ ((p + 1 : Nat) : Int) ≤ (l.length : Int) by omega)]
    exact ⟨_, _, rfl, u64_and255 _⟩
theorem src_pick (l : List Int) (h : ∀ x ∈ l, (Lit.int .u8 x).wf = true) (p : Nat) (hs a : Int) (hp : p < 1099511627776) (ha : 2 ≤ a) (ha2 : a ≤ 200) : ∃ v hs', spec_l00Src_pick.f l (p : Int) hs a = some (v, ((p + 1 : Nat) : Int), hs') ∧ 0 ≤ v ∧ v < a := by
  obtain ⟨v, hs', h1, h2, h3⟩ := src_next l h p hs hp
  unfold spec_l00Src_pick.f
  rw [if_neg (by omega), h1, Option.bind_some, if_neg (by omega), if_neg (by omega)]
  exact ⟨_, _, rfl, Int.tmod_nonneg _ h2, Int.tmod_lt_of_pos _ (by omega)⟩

/-! R8Bits -/
theorem src_one (l : List Int) (h : ∀ x ∈ l, (Lit.int .u8 x).wf = true) (p : Nat) (hs : Int) (hp : p < 1099511627776) : ∃ b hs', spec_l00Src_one.f l (p : Int) hs 2 = some (b, ((p + 1 : Nat) : Int), hs') := by
  obtain ⟨v, hs', h1, h2, h3⟩ := src_pick l h p hs 2 hp (by omega) (by omega)
  unfold spec_l00Src_one.f
  rw [h1, Option.bind_some]
  exact ⟨_, _, rfl⟩
theorem R8Bits_l0 (l : List Int) (h : ∀ x ∈ l, (Lit.int .u8 x).wf = true) : ∀ (d : Nat) (xs : List Int) (p : Nat) (hs : Int), p + 2 * d ≤ 1000000 → xs.length + d ≤ 1000 → (∀ x ∈ xs, x = 48 ∨ x = 49) →
    ∃ ys, Ev (fun k => spec_R8Bits.l0 k xs (d : Int) l (p : Int) hs) (strOfNums ys) ∧ ys.length = xs.length + d ∧ ∀ x ∈ ys, x = 48 ∨ x = 49 := by
  intro d
  induction d with
  | zero =>
    intro xs p hs h1 h2 hx
    have c1 : ¬ ((0 : Nat) : Int) > 0 := by omega
    refine ⟨xs, Ev.succ ?_, rfl, hx⟩
    simp only [spec_R8Bits.l0]
    refine Ev.cond (fun h' => absurd h' c1) (fun _ => Ev.now _)
  | succ d ih =>
    intro xs p hs h1 h2 hx
    have c1 : ((d + 1 : Nat) : Int) > 0 := by omega
    have c2 : xs.length < 140737488355328 := by omega
    have hw : wrap64 (((d + 1 : Nat) : Int) - 1) = (d : Int) := by rw [w64 (by omega) (by omega)]; omega
    obtain ⟨v, hs1, e1, v0, v1⟩ := src_pick l h p hs 2 (by omega) (by omega) (by omega)
    obtain ⟨b, hs2, e2⟩ := src_one l h (p + 1) hs1 (by omega)
    have hv : (wrap64 (48 + v)) % 256 = 48 ∨ (wrap64 (48 + v)) % 256 = 49 := by
      rw [w64 (by omega) (by omega)]; omega
    have app : ∀ y : Int, (y = 48 ∨ y = 49) → ∀ x ∈ xs ++ [y], x = 48 ∨ x = 49 := by
      intro y hy x hm
      rcases List.mem_append.1 hm with hm | hm
      · exact hx x hm
      · rw [List.mem_singleton] at hm; rw [hm]; exact hy
    by_cases h0 : (xs.length : Int) > 0
    · have hlast : wrap64 ((xs.length : Int) - 1) = ((xs.length - 1 : Nat) : Int) := by rw [w64 (by omega) (by omega)]; omega
      have c3 : (0 : Int) ≤ ((xs.length - 1 : Nat) : Int) := by omega
      have c4 : ((xs.length - 1 : Nat) : Int) < (xs.length : Int) := by omega
      by_cases hb : b = true
      · have hr : rd xs ((xs.length - 1 : Nat) : Int) = 48 ∨ rd xs ((xs.length - 1 : Nat) : Int) = 49 := hx _ (rd_mem (by omega))
        obtain ⟨ys, y1, y2, y3⟩ := ih (xs ++ [rd xs ((xs.length - 1 : Nat) : Int)]) (p + 2) hs2 (by omega) (by rw [List.length_append, List.length_singleton]; omega) (app _ hr)
        refine ⟨ys, Ev.succ ?_, by rw [y2, List.length_append, List.length_singleton]; omega, y3⟩
        simp only [spec_R8Bits.l0, hw, hlast]
        refine Ev.cond (fun _ => ?_) (fun h' => absurd c1 h')
        refine Ev.bind (Ev.const e1) ?_
        refine Ev.cond (fun _ => ?_) (fun h' => absurd h0 h')
        refine Ev.bind (Ev.const e2) ?_
        refine Ev.cond (fun _ => ?_) (fun h' => absurd hb h')
        refine Ev.cond (fun _ => ?_) (fun h' => absurd c3 h')
        refine Ev.cond (fun _ => ?_) (fun h' => absurd c4 h')
        exact Ev.cond (fun _ => y1) (fun h' => absurd c2 h')
      · obtain ⟨ys, y1, y2, y3⟩ := ih (xs ++ [(wrap64 (48 + v)) % 256]) (p + 2) hs2 (by omega) (by rw [List.length_append, List.length_singleton]; omega) (app _ hv)
        refine ⟨ys, Ev.succ ?_, by rw [y2, List.length_append, List.length_singleton]; omega, y3⟩
        simp only [spec_R8Bits.l0, hw, hlast]
        refine Ev.cond (fun _ => ?_) (fun h' => absurd c1 h')
        refine Ev.bind (Ev.const e1) ?_
        refine Ev.cond (fun _ => ?_) (fun h' => absurd h0 h')
        refine Ev.bind (Ev.const e2) ?_
        refine Ev.cond (fun h' => absurd h' hb) (fun _ => ?_)
        exact Ev.cond (fun _ => y1) (fun h' => absurd c2 h')
    · obtain ⟨ys, y1, y2, y3⟩ := ih (xs ++ [(wrap64 (48 + v)) % 256]) (p + 1) hs1 (by omega) (by rw [List.length_append, List.length_singleton]; omega) (app _ hv)
      refine ⟨ys, Ev.succ ?_, by rw [y2, List.length_append, List.length_singleton]; omega, y3⟩
      simp only [spec_R8Bits.l0, hw]
      refine Ev.cond (fun _ => ?_) (fun h' => absurd c1 h')
      refine Ev.bind (Ev.const e1) ?_
      refine Ev.cond (fun h' => absurd h' h0) (fun _ => ?_)
      exact Ev.cond (fun _ => y1) (fun h' => absurd c2 h')
theorem str_bits {ys : List Int} (h : ∀ x ∈ ys, x = 48 ∨ x = 49) : (strOfNums ys).data.toList.all isBitB = true := by
  rw [List.all_eq_true]
  intro b hb
  have e : (strOfNums ys).data.toList = ys.map fun n => UInt8.ofNat n.toNat := by simp [strOfNums]
  rw [e, List.mem_map] at hb
  obtain ⟨x, hx, rfl⟩ := hb
  rcases h x hx with rfl | rfl <;> decide
theorem R8Bits_ev (l : List Int) (h : ∀ x ∈ l, (Lit.int .u8 x).wf = true) (n : Nat) (hn1 : 1 ≤ n) (hn : n ≤ 100) : ∃ s : ByteArray, Ev (fun k => spec_R8Bits.f k l (n : Int)) s ∧ s.size ≤ n ∧ s.data.toList.all isBitB = true := by
  have hw : wrap64 ((n : Int) + 1) = (n : Int) + 1 := w64 (by omega) (by omega)
  obtain ⟨v, hs, e1, v0, v1⟩ := src_pick l h 0 0 ((n : Int) + 1) (by omega) (by omega) (by omega)
  obtain ⟨v, rfl⟩ := Int.eq_ofNat_of_zero_le v0
  obtain ⟨ys, y1, y2, y3⟩ := R8Bits_l0 l h v [] 1 hs (by omega) (by simp; omega) (by simp)
  refine ⟨strOfNums ys, ?_, by rw [str_size, y2, List.length_nil]; omega, str_bits y3⟩
  unfold spec_R8Bits.f spec_l00From.f
  refine Ev.bind (Ev.const rfl) ?_
  rw [hw]
  exact Ev.bind (Ev.const e1) y1

def zstr (n : Nat) : ByteArray := ⟨(List.replicate n (48 : UInt8)).toArray⟩
theorem zstr_size (n : Nat) : (zstr n).size = n := by
  show (zstr n).data.size = n
  simp [zstr]
theorem bt_zstr {n k : Nat} (h : k < n) : bt (zstr n) (k : Int) = 48 := by
  rw [bt_nat _ _ (by rw [zstr_size]; exact h)]
  have e : (zstr n)[k]'(by rw [zstr_size]; exact h) = 48 := by
    show (zstr n).data[k]'_ = 48
    simp [zstr]
  rw [e]; rfl
theorem zstr_succ (n : Nat) : zstr n ++ (⟨#[48]⟩ : ByteArray) = zstr (n + 1) := by
  apply ByteArray.ext
  apply Array.ext'
  rw [ByteArray.data_append, Array.toList_append]
  show (List.replicate n (48 : UInt8)) ++ [48] = List.replicate (n + 1) 48
  rw [List.replicate_succ']
theorem bt_append (s t : ByteArray) {k : Nat} (h : k < s.size + t.size) : bt (s ++ t) (k : Int) = if k < s.size then bt s (k : Int) else bt t ((k - s.size : Nat) : Int) := by
  have h2 : k < (s ++ t).size := by rw [ByteArray.size_append]; exact h
  rw [bt_nat _ _ h2]
  by_cases hk : k < s.size
  · rw [if_pos hk, bt_nat _ _ hk]
    have e : (s ++ t)[k]'h2 = s[k]'hk := by
      show (s ++ t).data[k]'_ = s.data[k]'_
      simp only [ByteArray.data_append]
      exact Array.getElem_append_left hk
    rw [e]
  · have hk2 : k - s.size < t.size := by omega
    rw [if_neg hk, bt_nat _ _ hk2]
    have e : (s ++ t)[k]'h2 = t[k - s.size]'hk2 := by
      show (s ++ t).data[k]'_ = t.data[k - s.size]'_
      simp only [ByteArray.data_append]
      exact Array.getElem_append_right (Nat.le_of_not_lt hk)
    rw [e]
theorem bt_pre {f : Nat → Int} {n k : Nat} (hk : k < n) (h : f k = 48 ∨ f k = 49) : bt (strOfNums (pre f n)) (k : Int) = f k := by
  have e : (pre f n)[k]'(by rw [pre_length]; exact hk) = f k := by simp [pre]
  rw [bt_str (by rw [pre_length]; exact hk) (by rw [e]; omega), e]
theorem slE_bits {s : ByteArray} (h : ∀ k : Nat, k < s.size → (bt s (k : Int) = 48 ∨ bt s (k : Int) = 49)) (d : Nat → Nat) {n : Nat} (hn : n < s.size) : slE s d n = 48 ∨ slE s d n = 49 := by
  unfold slE
  by_cases hd : d n ≤ n
  · rw [if_pos hd]; exact h _ (by omega)
  · rw [if_neg hd]; exact .inl rfl
theorem bitsB_of {s : ByteArray} (h : ∀ k : Nat, k < s.size → (bt s (k : Int) = 48 ∨ bt s (k : Int) = 49)) (hs : s.size ≤ 400) : bitsB s = true := by
  unfold bitsB
  rw [(all_bits_iff s).2 h, decide_eq_true hs]; rfl
theorem sl_back {r c D : Nat} (hr : 1 ≤ r) (hD : (r - 1) * c * r = D) (s o l : ByteArray) (hl : l = s ++ zstr D) (ho : o = strOfNums (pre (slE l (upD r c)) l.size)) (hb : ∀ k : Nat, k < l.size → (bt l (k : Int) = 48 ∨ bt l (k : Int) = 49)) (hob : ∀ k : Nat, k < o.size → (bt o (k : Int) = 48 ∨ bt o (k : Int) = 49)) :
    strOfNums (pre (slE o (downD r c)) o.size) = zstr D ++ s := by
  have hls : l.size = s.size + D := by rw [hl, ByteArray.size_append, zstr_size]
  have hos : o.size = s.size + D := by rw [ho, str_size, pre_length, hls]
  apply str_ext
  · rw [str_size, pre_length, hos, ByteArray.size_append, zstr_size, Nat.add_comm]
  · intro k hk
    rw [str_size, pre_length] at hk
    rw [bt_pre hk (slE_bits hob _ hk), bt_append _ _ (by rw [zstr_size]; omega), zstr_size]
    have hq := Nat.mod_lt k (show r > 0 from hr)
    have hsum : downD r c k + k % r * c * r = D := by
      unfold downD
      rw [← Nat.add_mul, ← Nat.add_mul, Nat.sub_add_cancel (by omega), hD]
    have hmod : downD r c k ≤ k → (k - downD r c k) % r = k % r := by
      intro h
      have e : downD r c k = r * ((r - 1 - k % r) * c) := by unfold downD; rw [Nat.mul_comm]
      rw [e] at h ⊢
      exact Nat.sub_mul_mod h
    unfold slE
    generalize downD r c k = d at *
    by_cases h1 : d ≤ k
    · rw [if_pos h1]
      have hm := hmod h1
      have hu : upD r c (k - d) = k % r * c * r := by unfold upD; rw [hm]
      generalize k % r * c * r = u at *
      have e : bt o ((k - d : Nat) : Int) = slE l (upD r c) (k - d) := by
        rw [ho]; exact bt_pre (by omega) (slE_bits hb _ (by omega))
      rw [e]
      unfold slE
      rw [hu]
      by_cases h2 : u ≤ k - d
      · have h3 : ¬ k < D := by omega
        have h4 : k - d - u = k - D := by omega
        rw [if_pos h2, if_neg h3, h4, hl, bt_append _ _ (by rw [zstr_size]; omega), if_pos (by omega)]
      · have h3 : k < D := by omega
        rw [if_neg h2, if_pos h3, bt_zstr h3]
    · have h3 : k < D := by omega
      rw [if_neg h1, if_pos h3, bt_zstr h3]
theorem slAns_of {D : Nat → Nat → Nat → Nat} {r c : Nat} (hr : 1 ≤ r ∧ r ≤ 20) (hc : 1 ≤ c ∧ c ≤ 20) {s : ByteArray} (h : bitsB s = true) : slAns D (r : Int) (c : Int) s = (strOfNums (pre (slE s (D r c)) s.size), true) := by
  unfold slAns
  have e : sidesB (r : Int) (c : Int) = true := by
    unfold sidesB
    rw [decide_eq_true (show 1 ≤ (r : Int) ∧ (r : Int) ≤ 20 by omega), decide_eq_true (show 1 ≤ (c : Int) ∧ (c : Int) ≤ 20 by omega)]; rfl
  rw [e, h, if_pos (by decide), Int.toNat_natCast, Int.toNat_natCast]
theorem SL_l0 {r c D : Nat} (hr : 1 ≤ r ∧ r ≤ 20) (hc : 1 ≤ c ∧ c ≤ 20) (hD : (r - 1) * c * r = D) (hD2 : D ≤ 300) (s : ByteArray) (hs : s.size ≤ 100) (hall : s.data.toList.all isBitB = true) :
    ∀ (d n : Nat), n + d = D → Ev (fun k => laws_FnSlid.l0 k (r : Int) (c : Int) s (D : Int) (s ++ zstr n) (zstr n) (n : Int)) true := by
  intro d
  induction d with
  | zero =>
    intro n h
    obtain rfl : n = D := by omega
    have c1 : ¬ (n : Int) < (n : Int) := Int.lt_irrefl _
    have c2 : (zstr n).size + s.size ≤ 9223372036854775807 := by rw [zstr_size]; omega
    have hls : (s ++ zstr n).size = s.size + n := by rw [ByteArray.size_append, zstr_size]
    have hbs := (all_bits_iff s).1 hall
    have hb : ∀ k : Nat, k < (s ++ zstr n).size → (bt (s ++ zstr n) (k : Int) = 48 ∨ bt (s ++ zstr n) (k : Int) = 49) := by
      intro k hk
      rw [bt_append _ _ (by rw [zstr_size]; omega)]
      by_cases h1 : k < s.size
      · rw [if_pos h1]; exact hbs k h1
      · rw [if_neg h1, bt_zstr (by omega)]; exact .inl rfl
    have hlb := bitsB_of hb (by omega)
    have hU := SIu_ev (r : Int) (c : Int) (s ++ zstr n) (by omega)
    rw [slAns_of hr hc hlb] at hU
    generalize hl : s ++ zstr n = l at *
    generalize ho : strOfNums (pre (slE l (upD r c)) l.size) = o at *
    have hos : o.size = l.size := by rw [← ho, str_size, pre_length]
    have hob : ∀ k : Nat, k < o.size → (bt o (k : Int) = 48 ∨ bt o (k : Int) = 49) := by
      intro k hk
      rw [hos] at hk
      have hs2 := slE_bits hb (upD r c) hk
      rw [← ho, bt_pre hk hs2]; exact hs2
    have hbb := bitsB_of hob (by omega)
    have hDn := SId_ev (r : Int) (c : Int) o (by omega)
    rw [slAns_of hr hc hbb, sl_back hr.1 hD s o l hl.symm ho.symm hb hob] at hDn
    have c3 : (o.size : Int) = (l.size : Int) := by rw [hos]
    apply Ev.succ
    simp only [laws_FnSlid.l0]
    refine Ev.cond (fun h' => absurd h' c1) (fun _ => ?_)
    refine Ev.cond (fun _ => ?_) (fun h' => absurd c2 h')
    refine Ev.bind hU (Ev.bind hDn ?_)
    refine Ev.cond (fun _ => ?_) (fun h' => absurd (by trivial) h')
    refine Ev.cond (fun _ => ?_) (fun h' => absurd (by trivial) h')
    refine Ev.cond (fun _ => ?_) (fun h' => absurd c3 h')
    rw [beq_self_eq_true]
    exact Ev.now _
  | succ d ih =>
    intro n h
    have c1 : (n : Int) < (D : Int) := by omega
    have c2 : (s ++ zstr n).size + 1 ≤ 9223372036854775807 := by rw [ByteArray.size_append, zstr_size]; omega
    have c3 : (zstr n).size + 1 ≤ 9223372036854775807 := by rw [zstr_size]; omega
    have h3 := ih (n + 1) (by omega)
    apply Ev.succ
    simp only [laws_FnSlid.l0, w64_succ (show n < 9223372036854775807 by omega), ByteArray.append_assoc, zstr_succ]
    refine Ev.cond (fun _ => ?_) (fun h' => absurd c1 h')
    refine Ev.cond (fun _ => ?_) (fun h' => absurd c2 h')
    exact Ev.cond (fun _ => h3) (fun h' => absurd c3 h')
theorem FnSlid : laws_FnSlid.Pure := by
  intro l m hl hl2 hlw hm hm2 hmw
  refine Ev.rounds ?_
  unfold laws_FnSlid.f
  obtain ⟨b, hb, _⟩ := r8Long_eq l m
  refine Ev.bind (Ev.const hb) ?_
  refine Ev.cond (fun _ => Ev.now _) (fun _ => ?_)
  obtain ⟨t, ht, ht0, ht1⟩ := r8At_eq l hlw 0 5 (by omega) (by omega)
  obtain ⟨u, hu, hu0, hu1⟩ := r8At_eq l hlw 1 3 (by omega) (by omega)
  obtain ⟨s, hs, hs1, hs2⟩ := R8Bits_ev m hmw 60 (by omega) (by omega)
  refine Ev.bind (Ev.const ht) (Ev.bind (Ev.const hu) (Ev.bind hs ?_))
  obtain ⟨t, rfl⟩ := Int.eq_ofNat_of_zero_le ht0
  obtain ⟨u, rfl⟩ := Int.eq_ofNat_of_zero_le hu0
  have w1 : wrap64 (1 + (t : Int)) = ((t + 1 : Nat) : Int) := by rw [w64 (by omega) (by omega)]; omega
  have w2 : wrap64 (1 + (u : Int)) = ((u + 1 : Nat) : Int) := by rw [w64 (by omega) (by omega)]; omega
  rw [w1, w2]
  obtain ⟨r, hrt⟩ : ∃ r : Nat, r = t + 1 := ⟨_, rfl⟩
  obtain ⟨c, hcu⟩ : ∃ c : Nat, c = u + 1 := ⟨_, rfl⟩
  rw [← hrt, ← hcu]
  have hr : 1 ≤ r ∧ r ≤ 5 := by omega
  have hc : 1 ≤ c ∧ c ≤ 3 := by omega
  have w3 : wrap64 ((r : Int) - 1) = ((r - 1 : Nat) : Int) := by rw [w64 (by omega) (by omega)]; omega
  have d1 : wrap64 (wrap64 (wrap64 ((r : Int) - 1) * (c : Int)) * (r : Int)) = (((r - 1) * c * r : Nat) : Int) := by rw [w3]; exact sl_wrap (by omega) (by omega) (by omega)
  have d2 : wrap64 (wrap64 (wrap64 ((r : Int) - 1) * (r : Int)) * (c : Int)) = (((r - 1) * c * r : Nat) : Int) := by
    rw [w3, sl_wrap (by omega) (by omega) (by omega), Nat.mul_right_comm]
  have hD2 : (r - 1) * c * r ≤ 300 := by
    have h1 : (r - 1) * c ≤ 4 * 3 := Nat.mul_le_mul (by omega) (by omega)
    have h2 : (r - 1) * c * r ≤ 12 * 5 := Nat.mul_le_mul h1 (by omega)
    omega
  have hS : impl_SlideDelay.f (r : Int) (c : Int) = some ((((r - 1) * c * r : Nat) : Int), true) := by
    unfold impl_SlideDelay.f
    rw [areSides_eq, Option.bind_some, decide_eq_true (show 1 ≤ (r : Int) ∧ (r : Int) ≤ 20 by omega), decide_eq_true (show 1 ≤ (c : Int) ∧ (c : Int) ≤ 20 by omega), Bool.and_self, if_pos rfl, d1]
  refine Ev.bind (Ev.const hS) ?_
  refine Ev.cond (fun _ => ?_) (fun h' => absurd (by trivial) h')
  rw [d2, bne_self_eq_false]
  generalize hD : (r - 1) * c * r = D at *
  apply Ev.succ
  simp only [laws_FnSlid.j0]
  refine Ev.cond (fun h' => absurd h' (by decide)) (fun _ => ?_)
  have h := SL_l0 (s := s) (by omega) (by omega) hD hD2 (by omega) hs2 D 0 (by omega)
  have e1 : s ++ zstr 0 = s := by
    apply ByteArray.ext
    rw [ByteArray.data_append]
    simp [zstr]
  rw [e1] at h
  exact h

end Go.Proofs.YtckjcighblnnfaaDoor.Pure
