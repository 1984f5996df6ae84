/- Bits of a block come back, each one is where it is told, and a burst has no more bits of a row and no nearer ones than told. -/
import Derived.Test.YtckjcighblnnfaaDoorQFnInterleavedx3
import Derived.Test.YtckjcighblnnfaaDoorBase
namespace Go.Proofs.YtckjcighblnnfaaDoor.Pure
open Go.RowKit Go.Proofs.YtckjcighblnnfaaDoor.QFnInterleaved Go.Proofs.YtckjcighblnnfaaDoor.Base Go.Proofs.YtckjcighblnnfaaDoorW.PrintWords Go.Proofs.YtckjcighblnnfaaDoorW.PrintLast Go.Proofs.YtckjcighblnnfaaDoorW.PrintMore
set_option linter.unusedVariables false
set_option linter.unusedSimpArgs false

/-! l00In -/

/-! within -/
theorem within_eq (a b c : Int) : impl_within.f a b c = some (decide (b ≤ a ∧ a ≤ c)) := by
  unfold impl_within.f
  by_cases h : b ≤ a
  · simp [h, ge_iff_le]
  · simp [h, ge_iff_le]

/-! sides -/
theorem areSides_eq (a b : Int) : impl_areSides.f a b = some (decide (1 ≤ a ∧ a ≤ 20) && decide (1 ≤ b ∧ b ≤ 20)) := by
  unfold impl_areSides.f
  simp only [within_eq, Option.bind_some]
  by_cases h : 1 ≤ a ∧ a ≤ 20
  · simp [h]
  · simp [h]

/-! l01Bits -/

/-! l08Fits -/
def fitsB (a b : Int) (s : ByteArray) : Bool := (decide (1 ≤ a ∧ a ≤ 20) && decide (1 ≤ b ∧ b ≤ 20)) && bitsB s && ((s.size : Int) == a * b)
theorem fitsB_nat {a b : Int} {s : ByteArray} (h : fitsB a b s = true) : ∃ r c : Nat, a = r ∧ b = c ∧ 1 ≤ r ∧ r ≤ 20 ∧ 1 ≤ c ∧ c ≤ 20 ∧ s.size = r * c ∧ r * c ≤ 400 ∧ s.data.toList.all isBitB = true := by
  unfold fitsB at h
  simp only [Bool.and_eq_true, decide_eq_true_eq, beq_iff_eq] at h
  obtain ⟨⟨⟨h1, h2⟩, h3⟩, h4⟩ := h
  obtain ⟨r, rfl⟩ := Int.eq_ofNat_of_zero_le (show 0 ≤ a by omega)
  obtain ⟨c, rfl⟩ := Int.eq_ofNat_of_zero_le (show 0 ≤ b by omega)
  have hp : r * c ≤ 20 * 20 := Nat.mul_le_mul (by omega) (by omega)
  unfold bitsB at h3
  rw [Bool.and_eq_true] at h3
  exact ⟨r, c, rfl, rfl, by omega, by omega, by omega, by omega, by exact_mod_cast h4, hp, h3.1⟩

/-! IsBits -/
theorem trim_bits (s : ByteArray) (h : s.size ≤ 9223372036854775807) : strings_Trim.f s (⟨#[48, 49]⟩ : ByteArray) = some ⟨(Lib.trimS s.data.toList [48, 49]).toArray⟩ := by
  unfold strings_Trim.f
  rw [if_pos ⟨h, by decide, by decide⟩]
theorem areBits_eq (s : ByteArray) (h : s.size ≤ 9223372036854775807) : impl_areBits.f s = some (s.data.toList.all isBitB) := by
  unfold impl_areBits.f
  rw [trim_bits s h, Option.bind_some]
  congr 1
  have e1 : (⟨(Lib.trimS s.data.toList [48, 49]).toArray⟩ : ByteArray).toList = Lib.trimS s.data.toList [48, 49] := by rw [Lib.toList_data]
  rw [e1, Bool.eq_iff_iff, beq_iff_eq, trimS_nil]
  have e2 : (fun b => ([48, 49] : List UInt8).contains b) = isBitB := funext contains_bits
  rw [e2]
theorem IsBits_eq (s : ByteArray) (h : s.size ≤ 9223372036854775807) : impl_IsBits.f s = some (bitsB s) := by
  unfold impl_IsBits.f bitsB
  by_cases h4 : s.size ≤ 400
  · have h4' : (s.size : Int) ≤ 400 := by omega
    simp only [h4', if_true, areBits_eq s h, Option.bind_some, h4, decide_true, Bool.and_true]
  · have h4' : ¬ (s.size : Int) ≤ 400 := by omega
    simp only [h4', if_false, h4, decide_false, Bool.and_false]

/-! BlockInterleave -/
theorem isBlock_eq (a b : Int) (s : ByteArray) (h : s.size ≤ 1099511627776) : impl_isBlock.f a b s = some (fitsB a b s) := by
  unfold impl_isBlock.f fitsB
  simp only [areSides_eq, Option.bind_some, IsBits_eq s (by omega)]
  by_cases h1 : 1 ≤ a ∧ a ≤ 20
  · by_cases h2 : 1 ≤ b ∧ b ≤ 20
    · have hp : a * b ≤ 400 := by have := Int.mul_le_mul h1.2 h2.2 (by omega) (by omega); omega
      have hp0 : 0 ≤ a * b := Int.mul_nonneg (by omega) (by omega)
      have hw : wrap64 (a * b) = a * b := w64 (by omega) (by omega)
      simp only [h1, h2, and_self, decide_true, Bool.and_self, if_true, Bool.true_and, hw]
      by_cases h3 : bitsB s = true
      · simp only [h3, if_true, Bool.true_and]
      · simp only [h3, if_false, Bool.false_and, Bool.false_eq_true]
    · simp only [h2, decide_false, Bool.and_false, Bool.false_and, Bool.false_eq_true, if_false]
  · simp only [h1, decide_false, Bool.false_and, Bool.false_eq_true, if_false]
theorem behindPlace_eq {r c i : Nat} (hc : 1 ≤ c) (hr : r ≤ 20) (hc2 : c ≤ 20) (hi : i < r * c) (hb : r * c ≤ 400) : impl_behindPlace.f (r : Int) (c : Int) (i : Int) = some (place r c i : Int) := by
  unfold impl_behindPlace.f
  rw [if_neg (by omega)]
  have e1 : Int.tmod (i : Int) (c : Int) = ((i % c : Nat) : Int) := by rw [Int.tmod_eq_emod_of_nonneg (by omega)]; rfl
  have e2 : Int.tdiv (i : Int) (c : Int) = ((i / c : Nat) : Int) := by rw [Int.tdiv_eq_ediv_of_nonneg (by omega)]; rfl
  have e3 : ((i % c : Nat) : Int) * (r : Int) = ((i % c * r : Nat) : Int) := by push_cast; rfl
  have hpl := place_lt hi
  unfold place at hpl ⊢
  rw [e1, e2, e3]
  clear e1 e2 e3
  generalize i % c * r = m at hpl ⊢
  generalize i / c = q at hpl ⊢
  have w1 : wrap64 (m : Int) = (m : Int) := w64 (by omega) (by omega)
  have w2 : wrap64 (q : Int) = (q : Int) := w64 (by omega) (by omega)
  rw [w1, w2, w64 (by omega) (by omega)]
  congr 1
def fillN (s : ByteArray) (r c i : Nat) : List Int := pre (fun k => if place c r k < i then bt s (place c r k : Nat) else 0) (r * c)
theorem fill_step (s : ByteArray) (r c i : Nat) (hi : i < r * c) : (fillN s r c i).set (place r c i) (bt s (i : Nat)) = fillN s r c (i + 1) := by
  apply List.ext_getElem
  · simp [fillN, pre_length]
  · intro k h1 h2
    have hk : k < r * c := by simpa [fillN, pre_length] using h2
    have hk' : k < c * r := by rw [Nat.mul_comm]; exact hk
    rw [List.getElem_set]
    simp only [fillN, pre, List.getElem_map, List.getElem_range]
    by_cases e : place r c i = k
    · rw [if_pos e]
      have e2 : place c r k = i := by rw [← e]; exact place_inv hi
      rw [e2, if_pos (by omega)]
    · rw [if_neg e]
      have hne : place c r k ≠ i := fun e2 => e (by rw [← e2]; exact place_inv hk')
      by_cases hlt : place c r k < i
      · rw [if_pos hlt, if_pos (by omega)]
      · rw [if_neg hlt, if_neg (by omega)]
theorem BI_l0 (r c : Nat) (s : ByteArray) (hr : 1 ≤ r) (hr2 : r ≤ 20) (hc : 1 ≤ c) (hc2 : c ≤ 20) (hs : s.size = r * c) (hb : r * c ≤ 400) : ∀ (d i : Nat), i + d = r * c →
    Ev (fun k => impl_BlockInterleave.l0 k (r : Int) (c : Int) s (fillN s r c i) (s.size : Int) (i : Int)) (strOfNums (pre (fun k => bt s (place c r k : Nat)) (r * c)), true) := by
  intro d
  induction d with
  | zero =>
    intro i h
    have c1 : ¬ ((i : Int) < (s.size : Int)) := by omega
    have e : fillN s r c i = pre (fun k => bt s (place c r k : Nat)) (r * c) := by
      unfold fillN
      apply pre_congr
      intro k hk
      have := place_lt (r := c) (c := r) (i := k) (by rw [Nat.mul_comm]; exact hk)
      rw [Nat.mul_comm c r] at this
      show (if place c r k < i then _ else _) = _
      rw [if_pos (by omega)]
    apply Ev.succ
    simp only [impl_BlockInterleave.l0, c1, if_false, e]
    exact Ev.now _
  | succ d ih =>
    intro i h
    have hi : i < r * c := by omega
    have c1 : (i : Int) < (s.size : Int) := by omega
    have c2 : (0 : Int) ≤ (i : Int) := by omega
    have c3 : (0 : Int) ≤ (place r c i : Int) := by omega
    have hpl := place_lt hi
    have c4 : (place r c i : Int) < ((fillN s r c i).length : Int) := by unfold fillN; rw [pre_length]; omega
    have h3 := ih (i + 1) (by omega)
    rw [← fill_step s r c i hi] at h3
    apply Ev.succ
    simp only [impl_BlockInterleave.l0]
    refine Ev.cond (fun _ => ?_) (fun h' => absurd c1 h')
    refine Ev.bind (Ev.const (behindPlace_eq hc hr2 hc2 hi hb)) ?_
    refine Ev.cond (fun _ => ?_) (fun h' => absurd c2 h')
    refine Ev.cond (fun _ => ?_) (fun h' => absurd c1 h')
    refine Ev.cond (fun _ => ?_) (fun h' => absurd c3 h')
    refine Ev.cond (fun _ => ?_) (fun h' => absurd c4 h')
    rw [Int.toNat_natCast, w64_succ (show i < 9223372036854775807 by omega)]
    exact h3
theorem BI_ev (a b : Int) (s : ByteArray) (hn : s.size ≤ 1099511627776) : Ev (fun k => impl_BlockInterleave.f k a b s) (if fitsB a b s = true then (strOfNums (pre (fun k => bt s (place b.toNat a.toNat k : Nat)) s.size), true) else (⟨#[]⟩, false)) := by
  unfold impl_BlockInterleave.f
  simp only [isBlock_eq a b s hn, Option.bind_some]
  by_cases h : fitsB a b s = true
  · obtain ⟨r, c, rfl, rfl, hr, hr2, hc, hc2, hs, hb, _⟩ := fitsB_nat h
    have c1 : (0 : Int) ≤ (s.size : Int) := by omega
    have c2 : s.size ≤ 281474976710656 := by omega
    have e : List.replicate s.size (0 : Int) = fillN s r c 0 := by
      unfold fillN
      apply List.ext_getElem
      · rw [List.length_replicate, pre_length, hs]
      · intro k h1 h2
        simp [pre]
    simp only [h, if_true, c1, Int.toNat_natCast, c2, e]
    have h3 := BI_l0 r c s hr hr2 hc hc2 hs hb (r * c) 0 (by omega)
    rw [hs] at h3 ⊢
    exact h3
  · simp only [h, if_false]; exact Ev.now _

/-! l00Max -/

/-! rdset -/
theorem rd_set_same {xs : List Int} {s v : Int} (h0 : 0 ≤ s) (h : s < (xs.length : Int)) : rd (xs.set s.toNat v) s = v := by
  unfold rd
  rw [List.getD_eq_getElem?_getD, List.getElem?_set_self (by omega)]; rfl
theorem rd_set_ne {xs : List Int} {s t v : Int} (h0 : 0 ≤ s) (h1 : 0 ≤ t) (h : s ≠ t) : rd (xs.set s.toNat v) t = rd xs t := by
  unfold rd
  rw [List.getD_eq_getElem?_getD, List.getD_eq_getElem?_getD, List.getElem?_set_ne (by omega)]

/-! MostInRow -/
theorem MR_prod {a b : Int} (ha : 1 ≤ a) (ha2 : a ≤ 20) (hb : 1 ≤ b) (hb2 : b ≤ 20) : 1 ≤ a * b ∧ a * b ≤ 400 := by
  constructor
  · have := Int.mul_le_mul ha hb (by omega) (by omega); omega
  · have := Int.mul_le_mul ha2 hb2 (by omega) (by omega); omega
theorem div_of {a n q : Int} (ha : 0 < a) (h1 : a * q ≤ n) (h2 : n < a * q + a) : n / a = q := by
  have e1 : q * a ≤ n := by rw [Int.mul_comm]; exact h1
  have e2 : n < (q + 1) * a := by rw [Int.add_mul, Int.one_mul, Int.mul_comm q a]; exact h2
  have g1 := Int.le_ediv_of_mul_le ha e1
  have g2 := Int.ediv_lt_of_lt_mul ha e2
  omega
theorem res_inj {a f o p : Int} (ho : 0 ≤ o) (ho2 : o < a) (hp : 0 ≤ p) (hp2 : p < a) (h : (f + o) % a = (f + p) % a) : o = p := by
  have key : ∀ x y : Int, 0 ≤ x → x < a → 0 ≤ y → y < a → y ≤ x → (f + x) % a = (f + y) % a → x = y := by
    intro x y hx hx2 hy hy2 hyx e
    have e1 := Int.emod_eq_emod_iff_emod_sub_eq_zero.1 e
    have e2 : f + x - (f + y) = x - y := by omega
    rw [e2, Int.emod_eq_of_lt (by omega) (by omega)] at e1
    omega
  rcases Int.le_total o p with h' | h'
  · exact (key p o hp hp2 ho ho2 h' h.symm).symm
  · exact key o p ho ho2 hp hp2 h' h
/-- The counts behind j places from place f on. -/
def MR_inv (a f j : Int) (cs : List Int) : Prop := (cs.length : Int) = a ∧ ∀ o, 0 ≤ o → o < a → rd cs ((f + o) % a) = (j + a - 1 - o) / a
theorem MR_zero {a f : Int} (ha : 1 ≤ a) (hf : 0 ≤ f) : MR_inv a f 0 (List.replicate a.toNat 0) := by
  refine ⟨by rw [List.length_replicate]; omega, fun o h0 h1 => ?_⟩
  rw [div_of (q := 0) (by omega) (by omega) (by omega)]
  unfold rd
  rw [List.getD_eq_getElem?_getD, List.getElem?_replicate]
  split <;> rfl
theorem MR_step {a f j : Int} {cs : List Int} (ha : 1 ≤ a) (hf : 0 ≤ f) (hj : 0 ≤ j) (h : MR_inv a f j cs) :
    rd cs ((f + j) % a) = j / a ∧ MR_inv a f (j + 1) (cs.set ((f + j) % a).toNat (j / a + 1)) := by
  obtain ⟨hl, hv⟩ := h
  have e0 : (f + j) % a = (f + j % a) % a := by simp
  have m0 := Int.emod_nonneg j (show a ≠ 0 by omega)
  have m1 := Int.emod_lt_of_pos j (show 0 < a by omega)
  have e1 : a * (j / a) + j % a = j := Int.mul_ediv_add_emod j a
  have r0 := Int.emod_nonneg (f + j) (show a ≠ 0 by omega)
  have r1 := Int.emod_lt_of_pos (f + j) (show 0 < a by omega)
  have hq : rd cs ((f + j) % a) = j / a := by
    rw [e0, hv _ m0 m1]
    exact div_of (by omega) (by omega) (by omega)
  refine ⟨hq, by rw [List.length_set]; exact hl, fun o h0 h1 => ?_⟩
  have ex : a * (j / a + 1) = a * (j / a) + a := by rw [Int.mul_add, Int.mul_one]
  by_cases ho : o = j % a
  · subst ho
    rw [← e0, rd_set_same r0 (by omega)]
    exact (div_of (by omega) (by omega) (by omega)).symm
  · have hne : (f + j) % a ≠ (f + o) % a := fun e => ho (res_inj h0 h1 m0 m1 (by rw [← e0, e]))
    rw [rd_set_ne r0 (Int.emod_nonneg _ (by omega)) hne, hv o h0 h1]
    by_cases hlt : o < j % a
    · have d1 : (j + a - 1 - o) / a = j / a + 1 := div_of (by omega) (by omega) (by omega)
      have d2 : (j + 1 + a - 1 - o) / a = j / a + 1 := div_of (by omega) (by omega) (by omega)
      rw [d1, d2]
    · have d1 : (j + a - 1 - o) / a = j / a := div_of (by omega) (by omega) (by omega)
      have d2 : (j + 1 + a - 1 - o) / a = j / a := div_of (by omega) (by omega) (by omega)
      rw [d1, d2]
theorem MR_best {a j : Int} (ha : 1 ≤ a) (hj : 0 ≤ j) (best : Int) : max (max best ((j + a - 1) / a)) (j / a + 1) = max best ((j + 1 + a - 1) / a) := by
  have m0 := Int.emod_nonneg j (show a ≠ 0 by omega)
  have m1 := Int.emod_lt_of_pos j (show 0 < a by omega)
  have e1 : a * (j / a) + j % a = j := Int.mul_ediv_add_emod j a
  have ex : a * (j / a + 1) = a * (j / a) + a := by rw [Int.mul_add, Int.mul_one]
  have g : (j + 1 + a - 1) / a = j / a + 1 := div_of (by omega) (by omega) (by omega)
  have g2 : (j + a - 1) / a < j / a + 2 := by
    apply Int.ediv_lt_of_lt_mul (by omega)
    rw [Int.mul_comm, Int.mul_add]
    omega
  rw [g]
  omega
def MR_ans (a b c : Int) : Int × Bool := if (1 ≤ a ∧ a ≤ 20) ∧ (1 ≤ b ∧ b ≤ 20) ∧ 1 ≤ c ∧ c ≤ a * b then ((c + a - 1) / a, true) else (0, false)
theorem MR_impl (a b c : Int) : impl_MostInRow.f a b c = some (MR_ans a b c) := by
  unfold impl_MostInRow.f MR_ans
  simp only [areSides_eq, within_eq, Option.bind_some]
  by_cases h1 : 1 ≤ a ∧ a ≤ 20
  · by_cases h2 : 1 ≤ b ∧ b ≤ 20
    · have hp := MR_prod h1.1 h1.2 h2.1 h2.2
      have hp' : wrap64 (a * b) = a * b := w64 (by omega) (by omega)
      by_cases h3 : 1 ≤ c ∧ c ≤ a * b
      · have h4 : ¬ a = 0 := by omega
        have w1 : wrap64 (c + a) = c + a := w64 (by omega) (by omega)
        have w2 : wrap64 (c + a - 1) = c + a - 1 := w64 (by omega) (by omega)
        have w3 : Int.tdiv (c + a - 1) a = (c + a - 1) / a := Int.tdiv_eq_ediv_of_nonneg (by omega)
        have q0 : 0 ≤ (c + a - 1) / a := Int.ediv_nonneg (by omega) (by omega)
        have q1 : (c + a - 1) / a ≤ c + a - 1 := Int.ediv_le_self a (by omega)
        have w4 : wrap64 ((c + a - 1) / a) = (c + a - 1) / a := w64 (by omega) (by omega)
        simp only [h1, h2, h3, h4, hp', and_self, decide_true, Bool.and_self, if_true, if_false, w1, w2, w3, w4]
      · simp [h1, h2, h3, hp']
    · simp [h1, h2]
  · simp [h1]

/-! l00Min -/

/-! mxmn -/
theorem mx_eq (a b : Int) : mx a b = max a b := by unfold mx; split <;> omega
theorem mn_eq (a b : Int) : mn a b = min a b := by unfold mn; split <;> omega

/-! LeastApart -/
theorem prod_le {a b : Int} (ha : 1 ≤ a) (ha2 : a ≤ 20) (hb : 1 ≤ b) (hb2 : b ≤ 20) : 1 ≤ a * b ∧ a * b ≤ 400 := by
  constructor
  · have := Int.mul_le_mul ha hb (by omega) (by omega); omega
  · have := Int.mul_le_mul ha2 hb2 (by omega) (by omega); omega

/-! r8 -/
theorem wf_u8 {x : Int} (h : (Lit.int .u8 x).wf = true) : 0 ≤ x ∧ x ≤ 255 := by
  have h1 : decide (IntKind.min .u8 ≤ x) = true ∧ decide (x ≤ IntKind.max .u8) = true := by
    simpa [Lit.wf] using h
  obtain ⟨ha, hb⟩ := h1
  have ha := of_decide_eq_true ha
  have hb := of_decide_eq_true hb
  have e1 : IntKind.min .u8 = 0 := by decide
  have e2 : IntKind.max .u8 = 255 := by decide
  rw [e1] at ha
  rw [e2] at hb
  exact ⟨ha, hb⟩
theorem r8At_eq (l : List Int) (h : ∀ x ∈ l, (Lit.int .u8 x).wf = true) (a n : Int) (ha : 0 ≤ a) (hn : 1 ≤ n) : ∃ t, laws_r8At.f l a n = some t ∧ 0 ≤ t ∧ t < n := by
  unfold laws_r8At.f
  by_cases h1 : n ≤ 1
  · exact ⟨0, by rw [if_pos h1], by omega, by omega⟩
  by_cases h2 : a ≥ (l.length : Int)
  · exact ⟨0, by rw [if_neg h1, if_pos h2], by omega, by omega⟩
  obtain ⟨m, rfl⟩ := Int.eq_ofNat_of_zero_le ha
  have hm : m < l.length := by omega
  have hx := wf_u8 (h _ (rd_mem hm))
  have h0 : 0 ≤ Int.tmod (rd l (m : Int)) n := Int.tmod_nonneg _ hx.1
  have h3 : Int.tmod (rd l (m : Int)) n < n := Int.tmod_lt_of_pos _ (by omega)
  refine ⟨Int.tmod (rd l (m : Int)) n, ?_, h0, h3⟩
  rw [if_neg h1, if_neg h2, if_pos (by omega), if_pos (by omega), if_neg (by omega), w64 (by omega) (by omega)]
theorem r8Long_eq (l m : List Int) : ∃ b, laws_r8Long.f l m = some b ∧ (b = false → l.length ≤ 48 ∧ m.length ≤ 48) := by
  unfold laws_r8Long.f
  by_cases h : (l.length : Int) > 48
  · exact ⟨true, by rw [if_pos h], by simp⟩
  · refine ⟨decide ((m.length : Int) > 48), by rw [if_neg h], fun h2 => ?_⟩
    have h3 := of_decide_eq_false h2
    omega

/-! strs -/
theorem str_size (l : List Int) : (strOfNums l).size = l.length := by
  show (strOfNums l).data.size = _
  simp [strOfNums]
theorem bt_str {xs : List Int} {k : Nat} (hk : k < xs.length) (h : 0 ≤ xs[k] ∧ xs[k] ≤ 255) : bt (strOfNums xs) (k : Int) = xs[k] := by
  have hk' : k < (strOfNums xs).size := by rw [str_size]; exact hk
  rw [bt_nat _ _ hk']
  have e : (strOfNums xs)[k]'hk' = UInt8.ofNat (xs[k]).toNat := by
    show (strOfNums xs).data[k]'_ = _
    simp [strOfNums]
  rw [e, UInt8.toNat_ofNat']
  omega
theorem all_bits_iff (s : ByteArray) : s.data.toList.all isBitB = true ↔ ∀ k : Nat, k < s.size → (bt s (k : Int) = 48 ∨ bt s (k : Int) = 49) := by
  rw [List.all_eq_true]
  constructor
  · intro h k hk
    rw [bt_nat s k hk]
    refine (isBit_iff _).1 (h _ ?_)
    rw [← data_get hk]; exact List.getElem_mem _
  · intro h b hb
    obtain ⟨k, hk, rfl⟩ := List.mem_iff_getElem.1 hb
    have hk' : k < s.size := by rw [← size_data]; exact hk
    rw [isBit_iff, data_get hk', ← bt_nat s k hk']
    exact h k hk'
theorem str_ext {s t : ByteArray} (h : s.size = t.size) (h2 : ∀ k : Nat, k < s.size → bt s (k : Int) = bt t (k : Int)) : s = t := by
  apply ByteArray.ext
  apply Array.ext
  · exact h
  · intro k h3 h4
    have e := h2 k h3
    rw [bt_nat s k h3, bt_nat t k h4] at e
    exact UInt8.toNat_inj.1 (by exact_mod_cast e)

def LAw (N : Nat) (b : Int) (i k : Nat) : Prop := i < k ∧ k < N ∧ (k : Int) < i + b
def LAd (r c i k : Nat) : Int := max ((place c r i : Int) - place c r k) ((place c r k : Int) - place c r i)
theorem place_le (r c N i : Nat) (hN : r * c = N) (h : i < N) : place c r i < N := by
  subst hN
  have := place_lt (r := c) (c := r) (i := i) (by rw [Nat.mul_comm]; exact h)
  rw [Nat.mul_comm c r] at this
  exact this
theorem prodN {r c N : Nat} (hN : r * c = N) (h2 : N ≤ 400) : wrap64 ((r : Int) * (c : Int)) = (N : Int) := by
  have e : (r : Int) * (c : Int) = (N : Int) := by rw [← hN]; push_cast; rfl
  rw [e]; exact w64 (by omega) (by omega)
theorem LAi_inner (r c N : Nat) (b : Int) (hw : wrap64 ((r : Int) * (c : Int)) = (N : Int)) (hpl : ∀ k, k < N → place c r k < N) (hbp : ∀ k : Nat, k < N → impl_behindPlace.f (c : Int) (r : Int) (k : Int) = some (place c r k : Int)) (hN2 : N ≤ 400) (hb : b ≤ 400) (hb0 : 0 ≤ b) (i : Nat) (hi : i < N)
    (next : ∀ l : Int, (∀ i' k', LAw N b i' k' → i' < i + 1 → l ≤ LAd r c i' k') → ∃ v, Ev (fun k => impl_LeastApart.l0 k (r : Int) (c : Int) b l (N : Int) ((i + 1 : Nat) : Int)) (v, true) ∧ ∀ i' k', LAw N b i' k' → v ≤ LAd r c i' k') :
    ∀ (d : Nat) (k0 : Nat) (l : Int), i < k0 → k0 + d = N → (∀ i' k', LAw N b i' k' → (i' < i ∨ (i' = i ∧ k' < k0)) → l ≤ LAd r c i' k') → ∃ v, Ev (fun k => impl_LeastApart.l1 k (r : Int) (c : Int) b l (i : Int) (k0 : Int) (N : Int) (i : Int)) (v, true) ∧ ∀ i' k', LAw N b i' k' → v ≤ LAd r c i' k' := by
  have hic : wrap64 ((i : Int) + b) = (i : Int) + b := w64 (by omega) (by omega)
  have hi1 : wrap64 ((i : Int) + 1) = ((i + 1 : Nat) : Int) := w64_succ (by omega)
  intro d
  have stop : ∀ (k0 : Nat) (l : Int), i < k0 → ¬ (k0 : Int) < min ((i : Int) + b) (N : Int) → (∀ i' k', LAw N b i' k' → (i' < i ∨ (i' = i ∧ k' < k0)) → l ≤ LAd r c i' k') → ∃ v, Ev (fun k => impl_LeastApart.l1 k (r : Int) (c : Int) b l (i : Int) (k0 : Int) (N : Int) (i : Int)) (v, true) ∧ ∀ i' k', LAw N b i' k' → v ≤ LAd r c i' k' := by
    intro k0 l h0 hs hl
    obtain ⟨v, hv, hall⟩ := next l (fun i' k' hw' hlt => hl i' k' hw' (by
      obtain ⟨w1, w2, w3⟩ := hw'
      by_cases e : i' = i
      · subst e; right; refine ⟨rfl, ?_⟩; omega
      · left; omega))
    refine ⟨v, Ev.succ ?_, hall⟩
    simp only [impl_LeastApart.l1, mn_eq, hw, hic, hs, if_false, hi1]
    exact hv
  induction d with
  | zero =>
    intro k0 l h0 h hl
    exact stop k0 l h0 (by omega) hl
  | succ d ih =>
    intro k0 l h0 h hl
    by_cases hs : (k0 : Int) < min ((i : Int) + b) (N : Int)
    · have hk0 : k0 < N := by omega
      obtain ⟨v, hv, hall⟩ := ih (k0 + 1) (min l (LAd r c i k0)) (Nat.lt_succ_of_lt h0) (by omega) (by
        intro i' k' hw' hor
        by_cases e : i' = i ∧ k' = k0
        · rw [e.1, e.2]; exact Int.min_le_right _ _
        · refine Int.le_trans (Int.min_le_left _ _) (hl i' k' hw' ?_)
          clear hl hw' ih stop next hbp hpl hs hic hi1 hw
          omega)
      have b1 := hbp i hi
      have b2 := hbp k0 hk0
      have p1 := hpl i hi
      have p2 := hpl k0 hk0
      have w1 : wrap64 ((place c r i : Int) - (place c r k0 : Int)) = (place c r i : Int) - (place c r k0 : Int) := w64 (by omega) (by omega)
      have w2 : wrap64 (-((place c r i : Int) - (place c r k0 : Int))) = (place c r k0 : Int) - (place c r i : Int) := by rw [w64 (by omega) (by omega)]; omega
      have hk1 : wrap64 ((k0 : Int) + 1) = ((k0 + 1 : Nat) : Int) := w64_succ (by omega)
      refine ⟨v, Ev.succ ?_, hall⟩
      simp only [impl_LeastApart.l1, mn_eq, mx_eq, hw, hic, hs, if_true]
      refine Ev.bind (Ev.const b1) (Ev.bind (Ev.const b2) ?_)
      rw [w1, w2, hk1]
      exact hv
    · exact stop k0 l h0 hs hl
theorem LAi_outer (r c N : Nat) (b : Int) (hw : wrap64 ((r : Int) * (c : Int)) = (N : Int)) (hpl : ∀ k, k < N → place c r k < N) (hbp : ∀ k : Nat, k < N → impl_behindPlace.f (c : Int) (r : Int) (k : Int) = some (place c r k : Int)) (hN2 : N ≤ 400) (hb : b ≤ 400) (hb0 : 0 ≤ b) :
    ∀ (d i : Nat) (l : Int), i + d = N → (∀ i' k', LAw N b i' k' → i' < i → l ≤ LAd r c i' k') → ∃ v, Ev (fun k => impl_LeastApart.l0 k (r : Int) (c : Int) b l (N : Int) (i : Int)) (v, true) ∧ ∀ i' k', LAw N b i' k' → v ≤ LAd r c i' k' := by
  intro d
  induction d with
  | zero =>
    intro i l h hl
    have h1 : ¬ (i : Int) < (N : Int) := by omega
    refine ⟨l, Ev.succ ?_, fun i' k' hw' => hl i' k' hw' ?_⟩
    · simp only [impl_LeastApart.l0, h1, if_false]; exact Ev.now _
    · obtain ⟨w1, w2, w3⟩ := hw'
      omega
  | succ d ih =>
    intro i l h hl
    have h1 : (i : Int) < (N : Int) := by omega
    have hi1 : wrap64 ((i : Int) + 1) = ((i + 1 : Nat) : Int) := w64_succ (by omega)
    obtain ⟨v, hv, hall⟩ := LAi_inner r c N b hw hpl hbp hN2 hb hb0 i (by omega) (fun l hl' => ih (i + 1) l (by omega) hl') d (i + 1) l (by omega) (by omega) (by
      intro i' k' hw' hor
      refine hl i' k' hw' ?_
      obtain ⟨w1, w2, w3⟩ := hw'
      omega)
    refine ⟨v, Ev.succ ?_, hall⟩
    simp only [impl_LeastApart.l0, h1, if_true, hi1]
    exact hv
theorem sides_ok {r c : Nat} (hr : 1 ≤ r) (hr2 : r ≤ 20) (hc : 1 ≤ c) (hc2 : c ≤ 20) : impl_areSides.f (r : Int) (c : Int) = some true := by
  rw [areSides_eq, decide_eq_true (show 1 ≤ (r : Int) ∧ (r : Int) ≤ 20 by omega), decide_eq_true (show 1 ≤ (c : Int) ∧ (c : Int) ≤ 20 by omega)]; rfl
theorem LAi_ev (r c N bn : Nat) (hN : r * c = N) (hr : 1 ≤ r) (hr2 : r ≤ 20) (hc : 1 ≤ c) (hc2 : c ≤ 20) (hN2 : N ≤ 400) (hb1 : 1 ≤ bn) (hb2 : bn ≤ N) :
    ∃ v, Ev (fun k => impl_LeastApart.f k (r : Int) (c : Int) (bn : Int)) (v, decide ((bn : Int) > 1)) ∧ ∀ i' k', LAw N bn i' k' → v ≤ LAd r c i' k' := by
  have hw : wrap64 ((r : Int) * (c : Int)) = (N : Int) := prodN hN hN2
  by_cases h1 : bn = 1
  · subst h1
    refine ⟨0, ?_, ?_⟩
    · unfold impl_LeastApart.f
      refine Ev.bind (Ev.const (sides_ok hr hr2 hc hc2)) ?_
      refine Ev.cond (fun _ => ?_) (fun h' => absurd rfl h')
      refine Ev.bind (Ev.const (within_eq _ _ _)) ?_
      have e : decide ((2 : Int) ≤ ((1 : Nat) : Int) ∧ ((1 : Nat) : Int) ≤ wrap64 ((r : Int) * (c : Int))) = false := decide_eq_false (by omega)
      rw [e]
      apply Ev.succ
      simp only [impl_LeastApart.j0]
      refine Ev.cond (fun _ => ?_) (fun h' => absurd rfl h')
      exact Ev.now _
    · intro i' k' hw'
      obtain ⟨w1, w2, w3⟩ := hw'
      omega
  · obtain ⟨v, hv, hall⟩ := LAi_outer r c N bn hw (place_le r c N · hN) (fun k hk => behindPlace_eq hr hc2 hr2 (by rw [Nat.mul_comm, hN]; exact hk) (by rw [Nat.mul_comm, hN]; exact hN2)) hN2 (by omega) (by omega) N 0 (N : Int) (by omega) (by intro i' k' _ h; omega)
    refine ⟨v, ?_, hall⟩
    have e2 : decide ((bn : Int) > 1) = true := decide_eq_true (by omega)
    rw [e2]
    unfold impl_LeastApart.f
    refine Ev.bind (Ev.const (sides_ok hr hr2 hc hc2)) ?_
    refine Ev.cond (fun _ => ?_) (fun h' => absurd rfl h')
    refine Ev.bind (Ev.const (within_eq _ _ _)) ?_
    have e : decide ((2 : Int) ≤ (bn : Int) ∧ (bn : Int) ≤ wrap64 ((r : Int) * (c : Int))) = true := decide_eq_true (by rw [hw]; omega)
    rw [e]
    apply Ev.succ
    simp only [impl_LeastApart.j0, hw]
    refine Ev.cond (fun h' => absurd h' (by decide)) (fun _ => ?_)
    exact hv
theorem PB_eq {r c i N : Nat} (hN : r * c = N) (hr : 1 ≤ r) (hr2 : r ≤ 20) (hc : 1 ≤ c) (hc2 : c ≤ 20) (hi : i < N) (hb : N ≤ 400) : impl_PlaceBehind.f (r : Int) (c : Int) (i : Int) = some ((place r c i : Int), true) := by
  have hw : wrap64 ((r : Int) * (c : Int)) = (N : Int) := prodN hN hb
  have hw2 : wrap64 ((N : Int) - 1) = (N : Int) - 1 := w64 (by omega) (by omega)
  have e : decide ((0 : Int) ≤ (i : Int) ∧ (i : Int) ≤ (N : Int) - 1) = true := decide_eq_true (by omega)
  unfold impl_PlaceBehind.f
  rw [sides_ok hr hr2 hc hc2, Option.bind_some, if_pos rfl, within_eq, Option.bind_some, hw, hw2, e, if_pos rfl, behindPlace_eq hc hr2 hc2 (by rw [hN]; exact hi) (by rw [hN]; exact hb), Option.bind_some]
/-- Where the places behind come from. -/
def wheres (r c : Nat) : List Int := pre (fun k => (place c r k : Int)) (r * c)
theorem rd_wheres {r c k : Nat} (h : k < r * c) : rd (wheres r c) (k : Int) = (place c r k : Int) := by
  rw [rd_get (by unfold wheres; rw [pre_length]; exact h)]
  simp [wheres, pre]
theorem wheres_length (r c : Nat) : (wheres r c).length = r * c := pre_length _ _
theorem place_div {r c i : Nat} (hc : 1 ≤ c) (h : i < r * c) : place c r i / c = i % r := by
  have h1 : i / r < c := Nat.div_lt_of_lt_mul h
  unfold place
  rw [Nat.mul_comm, Nat.mul_add_div (by omega), Nat.div_eq_of_lt h1, Nat.add_zero]
theorem IL_l3 (r c N : Nat) (hN : r * c = N) (hN2 : N ≤ 400) (b v most : Int) (f i : Nat) (hb : (i : Int) < f + b) (hi : i < N) (cs : List Int)
    (hv : ∀ i' k', LAw N b i' k' → v ≤ LAd r c i' k')
    (next : Ev (fun k => laws_FnInterleaved.l2 k (c : Int) (wheres r c) b (f : Int) most v cs ((i + 1 : Nat) : Int)) true) :
    ∀ (d k0 : Nat), f ≤ k0 → k0 + d = i → Ev (fun k => laws_FnInterleaved.l3 k (c : Int) (wheres r c) b (f : Int) most v cs (i : Int) (k0 : Int)) true := by
  intro d
  induction d with
  | zero =>
    intro k0 hk h
    obtain rfl : k0 = i := by omega
    have h1 : ¬ (k0 : Int) < (k0 : Int) := by omega
    apply Ev.succ
    simp only [laws_FnInterleaved.l3]
    refine Ev.cond (fun h' => absurd h' h1) (fun _ => ?_)
    rw [w64_succ (by omega)]
    exact next
  | succ d ih =>
    intro k0 hk h
    have c1 : (k0 : Int) < (i : Int) := by omega
    have c2 : (0 : Int) ≤ (i : Int) := by omega
    have c3 : (i : Int) < ((wheres r c).length : Int) := by rw [wheres_length, hN]; omega
    have c4 : (0 : Int) ≤ (k0 : Int) := by omega
    have c5 : (k0 : Int) < ((wheres r c).length : Int) := by rw [wheres_length, hN]; omega
    have p1 := place_le r c N i hN hi
    have p2 := place_le r c N k0 hN (by omega)
    have hd := hv k0 i ⟨by omega, hi, by omega⟩
    unfold LAd at hd
    have h3 := ih (k0 + 1) (by omega) (by omega)
    apply Ev.succ
    simp only [laws_FnInterleaved.l3]
    refine Ev.cond (fun _ => ?_) (fun h' => absurd c1 h')
    refine Ev.cond (fun _ => ?_) (fun h' => absurd c2 h')
    refine Ev.cond (fun _ => ?_) (fun h' => absurd c3 h')
    refine Ev.cond (fun _ => ?_) (fun h' => absurd c4 h')
    refine Ev.cond (fun _ => ?_) (fun h' => absurd c5 h')
    rw [rd_wheres (show i < r * c by rw [hN]; exact hi), rd_wheres (show k0 < r * c by rw [hN]; omega), w64 (x := (place c r i : Int) - (place c r k0 : Int)) (by omega) (by omega), w64 (x := (place c r k0 : Int) - (place c r i : Int)) (by omega) (by omega), w64_succ (show k0 < 9223372036854775807 by omega)]
    refine Ev.cond (fun g1 => Ev.cond (fun g2 => absurd hd (by omega)) (fun _ => h3)) (fun _ => h3)
theorem cnt_le (r j bn : Nat) (hr : 1 ≤ r) (hj : j + 1 ≤ bn) : (j : Int) / (r : Int) + 1 ≤ ((bn : Int) + r - 1) / r := by
  have g1 : ((j : Int) + (r : Int)) / (r : Int) = (j : Int) / (r : Int) + 1 := by
    rw [Int.add_ediv_of_dvd_right (Int.dvd_refl _), Int.ediv_self (by omega)]
  rw [← g1]
  exact Int.ediv_le_ediv (by omega) (by omega)
theorem cnt_w (r j N : Nat) (hr : 1 ≤ r) (hj : j ≤ N) (hN : N ≤ 400) : wrap64 ((j : Int) / (r : Int) + 1) = (j : Int) / (r : Int) + 1 := by
  have q0 : 0 ≤ (j : Int) / (r : Int) := Int.ediv_nonneg (by omega) (by omega)
  have q1 : (j : Int) / (r : Int) ≤ j := Int.ediv_le_self _ (by omega)
  exact w64 (by omega) (by omega)
theorem mod_w (r m : Nat) (hr : 1 ≤ r) (hr2 : r ≤ 20) : wrap64 ((m % r : Nat) : Int) = ((m % r : Nat) : Int) := by
  have := Nat.mod_lt m (show r > 0 by omega)
  generalize m % r = q at this ⊢
  exact w64 (by omega) (by omega)
theorem IL_l2 (r c N : Nat) (hN : r * c = N) (hN2 : N ≤ 400) (hr : 1 ≤ r) (hr2 : r ≤ 20) (hc : 1 ≤ c) (bn : Nat) (v : Int) (f : Nat) (hfb : f + bn ≤ N) (hv : ∀ i' k', LAw N bn i' k' → v ≤ LAd r c i' k') :
    ∀ (d j : Nat) (cs : List Int), j + d = bn → MR_inv (r : Int) (f : Int) (j : Int) cs →
    Ev (fun k => laws_FnInterleaved.l2 k (c : Int) (wheres r c) (bn : Int) (f : Int) (((bn : Int) + r - 1) / r) v cs ((f + j : Nat) : Int)) true := by
  have hw : wrap64 ((f : Int) + (bn : Int)) = ((f + bn : Nat) : Int) := w64_add _ _ (by omega)
  intro d
  induction d with
  | zero =>
    intro j cs h hinv
    have h1 : ¬ ((f + j : Nat) : Int) < ((f + bn : Nat) : Int) := by omega
    apply Ev.succ
    simp only [laws_FnInterleaved.l2, hw, h1, if_false]
    exact Ev.now _
  | succ d ih =>
    intro j cs h hinv
    have hlt : f + j < N := by omega
    have hjN : j ≤ N := by omega
    have hjb : j + 1 ≤ bn := by omega
    have hjd : j + 1 + d = bn := by omega
    have hl3 : ((f + j : Nat) : Int) < (f : Int) + (bn : Int) := by omega
    have hc0 : ¬ (c : Int) = 0 := by omega
    have hr1 : (1 : Int) ≤ (r : Int) := by omega
    have c1 : ((f + j : Nat) : Int) < ((f + bn : Nat) : Int) := by omega
    have c2 : (0 : Int) ≤ ((f + j : Nat) : Int) := Int.natCast_nonneg _
    have c3 : ((f + j : Nat) : Int) < ((wheres r c).length : Int) := by rw [wheres_length, hN]; exact Int.ofNat_lt.2 hlt
    have c4 := hc0
    obtain ⟨hq, hs⟩ := MR_step (a := (r : Int)) (f := (f : Int)) (j := (j : Int)) hr1 (Int.natCast_nonneg _) (Int.natCast_nonneg _) hinv
    have em : ((f : Int) + (j : Int)) % (r : Int) = (((f + j) % r : Nat) : Int) := by push_cast; rfl
    rw [em] at hq hs
    have hmr : (f + j) % r < r := Nat.mod_lt _ (Nat.lt_of_lt_of_le Nat.zero_lt_one hr)
    have e1 : Int.tdiv (place c r (f + j) : Int) (c : Int) = (((f + j) % r : Nat) : Int) := by
      rw [← place_div hc (by rw [hN]; exact hlt), Int.tdiv_eq_ediv_of_nonneg (Int.natCast_nonneg _)]; rfl
    have e2 := mod_w r (f + j) hr hr2
    have c5 : (0 : Int) ≤ (((f + j) % r : Nat) : Int) := Int.natCast_nonneg _
    have c6 : (((f + j) % r : Nat) : Int) < (cs.length : Int) := by rw [hinv.1]; exact Int.ofNat_lt.2 hmr
    have e3 := cnt_w r j N hr hjN hN2
    have hrs : rd (cs.set ((((f + j) % r : Nat) : Int)).toNat ((j : Int) / (r : Int) + 1)) (((f + j) % r : Nat) : Int) = (j : Int) / (r : Int) + 1 := rd_set_same c5 c6
    have hm := cnt_le r j bn hr hjb
    have c7 : ¬ (j : Int) / (r : Int) + 1 > ((bn : Int) + r - 1) / r := Int.not_lt.2 hm
    have h3 := ih (j + 1) _ hjd (by push_cast; exact hs)
    have h4 := IL_l3 r c N hN hN2 bn v (((bn : Int) + r - 1) / r) f (f + j) hl3 hlt _ hv h3 j f (Nat.le_refl _) rfl
    apply Ev.succ
    simp only [laws_FnInterleaved.l2, hw]
    refine Ev.cond (fun _ => ?_) (fun h' => absurd c1 h')
    refine Ev.cond (fun _ => ?_) (fun h' => absurd c2 h')
    refine Ev.cond (fun _ => ?_) (fun h' => absurd c3 h')
    refine Ev.cond (fun h' => absurd h' c4) (fun _ => ?_)
    rw [rd_wheres (show f + j < r * c by rw [hN]; exact hlt), e1, e2, hq, e3]
    refine Ev.cond (fun _ => ?_) (fun h' => absurd c5 h')
    refine Ev.cond (fun _ => ?_) (fun h' => absurd c6 h')
    refine Ev.bind (Ev.const rfl) ?_
    rw [hrs]
    refine Ev.cond (fun h' => absurd h' c7) (fun _ => ?_)
    exact h4
def whereN (r c i : Nat) : List Int := pre (fun k => if place c r k < i then (place c r k : Int) else 0) (r * c)
theorem where_step (r c i : Nat) (hi : i < r * c) : (whereN r c i).set (place r c i) (i : Int) = whereN r c (i + 1) := by
  apply List.ext_getElem
  · simp [whereN, pre_length]
  · intro k h1 h2
    have hk : k < r * c := by simpa [whereN, pre_length] using h2
    have hk' : k < c * r := by rw [Nat.mul_comm]; exact hk
    rw [List.getElem_set]
    simp only [whereN, pre, List.getElem_map, List.getElem_range]
    by_cases e : place r c i = k
    · rw [if_pos e]
      have e2 : place c r k = i := by rw [← e]; exact place_inv hi
      rw [e2, if_pos (by omega)]
    · rw [if_neg e]
      have hne : place c r k ≠ i := fun e2 => e (by rw [← e2]; exact place_inv hk')
      by_cases hlt : place c r k < i
      · rw [if_pos hlt, if_pos (by omega)]
      · rw [if_neg hlt, if_neg (by omega)]
theorem bt_ilv (s : ByteArray) (g : Nat → Nat) (N k : Nat) (hk : k < N) : bt (strOfNums (pre (fun j => bt s (g j : Nat)) N)) (k : Int) = bt s (g k : Nat) := by
  have hk' : k < (pre (fun j => bt s (g j : Nat)) N).length := by rw [pre_length]; exact hk
  have e : (pre (fun j => bt s (g j : Nat)) N)[k]'hk' = bt s (g k : Nat) := by simp [pre]
  rw [bt_str hk' (by rw [e]; exact bt_range _ _), e]
theorem IL_end (r c N : Nat) (hN : r * c = N) (hN2 : N ≤ 400) (hr : 1 ≤ r) (hr2 : r ≤ 20) (hc : 1 ≤ c) (hc2 : c ≤ 20) (m : List Int) (hm : ∀ x ∈ m, (Lit.int .u8 x).wf = true) (s o : ByteArray) :
    Ev (fun k => laws_FnInterleaved.l1 k m (r : Int) (c : Int) s o (wheres r c) (N : Int)) true := by
  have hw : wrap64 ((r : Int) * (c : Int)) = (N : Int) := prodN hN hN2
  have hN1 : 1 ≤ N := by rw [← hN]; exact Nat.mul_le_mul hr hc
  have h1 : ¬ (N : Int) < (N : Int) := by omega
  obtain ⟨t, ht, ht0, ht1⟩ := r8At_eq m hm 0 (N : Int) (by omega) (by omega)
  obtain ⟨t, rfl⟩ := Int.eq_ofNat_of_zero_le ht0
  have w1 : wrap64 (1 + (t : Int)) = ((t + 1 : Nat) : Int) := by rw [w64 (by omega) (by omega)]; omega
  have w2 : wrap64 ((N : Int) - ((t + 1 : Nat) : Int)) = (N : Int) - ((t + 1 : Nat) : Int) := w64 (by omega) (by omega)
  have w3 : wrap64 ((N : Int) - ((t + 1 : Nat) : Int) + 1) = (N : Int) - ((t + 1 : Nat) : Int) + 1 := w64 (by omega) (by omega)
  obtain ⟨f, hf, hf0, hf1⟩ := r8At_eq m hm 1 ((N : Int) - ((t + 1 : Nat) : Int) + 1) (by omega) (by omega)
  obtain ⟨f, rfl⟩ := Int.eq_ofNat_of_zero_le hf0
  obtain ⟨v, hv, hall⟩ := LAi_ev r c N (t + 1) hN hr hr2 hc hc2 hN2 (by omega) (by omega)
  have hmr : impl_MostInRow.f (r : Int) (c : Int) ((t + 1 : Nat) : Int) = some ((((t + 1 : Nat) : Int) + r - 1) / r, true) := by
    rw [MR_impl]
    unfold MR_ans
    rw [if_pos ⟨⟨by omega, by omega⟩, ⟨by omega, by omega⟩, by omega, by
      have e : (r : Int) * (c : Int) = (N : Int) := by rw [← hN]; push_cast; rfl
      rw [e]; omega⟩]
  have hz := MR_zero (a := (r : Int)) (f := (f : Int)) (by omega) (by omega)
  rw [Int.toNat_natCast] at hz
  have h2 := IL_l2 r c N hN hN2 hr hr2 hc (t + 1) v f (by omega) hall (t + 1) 0 _ (by omega) hz
  apply Ev.succ
  simp only [laws_FnInterleaved.l1, hw]
  refine Ev.cond (fun h' => absurd h' h1) (fun _ => ?_)
  refine Ev.bind (Ev.const ht) ?_
  rw [w1, w2, w3]
  refine Ev.bind (Ev.const hf) (Ev.bind (Ev.const hmr) (Ev.bind hv ?_))
  refine Ev.cond (fun _ => ?_) (fun h' => absurd rfl h')
  rw [bne_self_eq_false]
  apply Ev.succ
  simp only [laws_FnInterleaved.j3]
  refine Ev.cond (fun h' => absurd h' (by decide)) (fun _ => ?_)
  refine Ev.cond (fun _ => ?_) (fun h' => absurd (by omega) h')
  rw [Int.toNat_natCast]
  refine Ev.cond (fun _ => ?_) (fun h' => absurd (by omega) h')
  exact h2
theorem IL_l1 (r c N : Nat) (hN : r * c = N) (hN2 : N ≤ 400) (hr : 1 ≤ r) (hr2 : r ≤ 20) (hc : 1 ≤ c) (hc2 : c ≤ 20) (m : List Int) (hm : ∀ x ∈ m, (Lit.int .u8 x).wf = true) (s o : ByteArray)
    (hs : s.size = N) (ho : o.size = N) (hso : ∀ i, i < N → bt o (place r c i : Nat) = bt s (i : Nat)) :
    ∀ (d i : Nat), i + d = N → Ev (fun k => laws_FnInterleaved.l1 k m (r : Int) (c : Int) s o (whereN r c i) (i : Int)) true := by
  have hw : wrap64 ((r : Int) * (c : Int)) = (N : Int) := prodN hN hN2
  intro d
  induction d with
  | zero =>
    intro i h
    obtain rfl : i = N := by omega
    have e : whereN r c i = wheres r c := by
      unfold whereN wheres
      apply pre_congr
      intro k hk
      have := place_le r c i k hN (by rw [← hN]; exact hk)
      show (if place c r k < i then _ else _) = _
      rw [if_pos this]
    rw [e]
    exact IL_end r c i hN hN2 hr hr2 hc hc2 m hm s o
  | succ d ih =>
    intro i h
    have hpl : place r c i < N := by rw [← hN]; exact place_lt (by rw [hN]; omega)
    have c1 : (i : Int) < (N : Int) := by omega
    have c2 : ¬ (place r c i : Int) < 0 := by omega
    have c3 : ¬ (place r c i : Int) ≥ (N : Int) := by omega
    have c4 : (0 : Int) ≤ (place r c i : Int) := by omega
    have c5 : (place r c i : Int) < (o.size : Int) := by omega
    have c6 : (0 : Int) ≤ (i : Int) := by omega
    have c7 : (i : Int) < (s.size : Int) := by omega
    have c8 : (place r c i : Int) < ((whereN r c i).length : Int) := by unfold whereN; rw [pre_length, hN]; omega
    have h3 := ih (i + 1) (by omega)
    rw [← where_step r c i (by rw [hN]; omega)] at h3
    apply Ev.succ
    simp only [laws_FnInterleaved.l1, hw]
    refine Ev.cond (fun _ => ?_) (fun h' => absurd c1 h')
    refine Ev.bind (Ev.const (PB_eq hN hr hr2 hc hc2 (by omega) hN2)) ?_
    refine Ev.cond (fun _ => ?_) (fun h' => absurd rfl h')
    refine Ev.cond (fun h' => absurd h' c2) (fun _ => ?_)
    refine Ev.cond (fun h' => absurd h' c3) (fun _ => ?_)
    refine Ev.cond (fun _ => ?_) (fun h' => absurd c4 h')
    refine Ev.cond (fun _ => ?_) (fun h' => absurd c5 h')
    refine Ev.cond (fun _ => ?_) (fun h' => absurd c6 h')
    refine Ev.cond (fun _ => ?_) (fun h' => absurd c7 h')
    refine Ev.cond (fun _ => ?_) (fun h' => absurd (hso i (by omega)) h')
    refine Ev.cond (fun _ => ?_) (fun h' => absurd c8 h')
    rw [Int.toNat_natCast, w64_succ (show i < 9223372036854775807 by omega)]
    exact h3
theorem fitsB_of {r c N : Nat} (hN : r * c = N) (hN2 : N ≤ 400) (hr : 1 ≤ r) (hr2 : r ≤ 20) (hc : 1 ≤ c) (hc2 : c ≤ 20) {s : ByteArray} (hs : s.size = N) (hall : s.data.toList.all isBitB = true) : fitsB (r : Int) (c : Int) s = true := by
  unfold fitsB bitsB
  rw [hall, decide_eq_true (show 1 ≤ (r : Int) ∧ (r : Int) ≤ 20 by omega), decide_eq_true (show 1 ≤ (c : Int) ∧ (c : Int) ≤ 20 by omega), decide_eq_true (show s.size ≤ 400 by omega)]
  simp only [Bool.and_self, Bool.true_and, beq_iff_eq]
  rw [hs, ← hN]; push_cast; rfl
theorem IL_body (r c N : Nat) (hN : r * c = N) (hN2 : N ≤ 400) (hr : 1 ≤ r) (hr2 : r ≤ 20) (hc : 1 ≤ c) (hc2 : c ≤ 20) (m : List Int) (hm : ∀ x ∈ m, (Lit.int .u8 x).wf = true) (s : ByteArray)
    (hs : s.size = N) (hall : s.data.toList.all isBitB = true) :
    Ev (fun k => laws_FnInterleaved.l0 k m (r : Int) (c : Int) s (N : Int)) true := by
  have hw : wrap64 ((r : Int) * (c : Int)) = (N : Int) := prodN hN hN2
  have h1 : ¬ (N : Int) < (N : Int) := by omega
  have hbi := BI_ev (r : Int) (c : Int) s (by omega)
  rw [if_pos (fitsB_of hN hN2 hr hr2 hc hc2 hs hall), hs] at hbi
  simp only [Int.toNat_natCast] at hbi
  obtain ⟨o, ho⟩ : ∃ o, o = strOfNums (pre (fun k => bt s (place c r k : Nat)) N) := ⟨_, rfl⟩
  rw [← ho] at hbi
  have hosz : o.size = N := by rw [ho, str_size, pre_length]
  have hob : ∀ k, k < N → bt o (k : Int) = bt s (place c r k : Nat) := fun k hk => by rw [ho]; exact bt_ilv s (fun k => place c r k) N k hk
  have hoall : o.data.toList.all isBitB = true := by
    rw [all_bits_iff]
    intro k hk
    rw [hob k (by omega)]
    exact (all_bits_iff s).1 hall _ (by rw [hs]; exact place_le r c N k hN (by omega))
  have hso : ∀ i, i < N → bt o (place r c i : Nat) = bt s (i : Nat) := by
    intro i hi
    have hpl : place r c i < N := by rw [← hN]; exact place_lt (by rw [hN]; omega)
    rw [hob _ hpl, place_inv (by rw [hN]; exact hi)]
  have hcN : c * r = N := by rw [Nat.mul_comm]; exact hN
  have hbd := BI_ev (c : Int) (r : Int) o (by omega)
  rw [if_pos (fitsB_of hcN hN2 hc hc2 hr hr2 hosz hoall), hosz] at hbd
  simp only [Int.toNat_natCast] at hbd
  have hback : strOfNums (pre (fun k => bt o (place r c k : Nat)) N) = s := by
    apply str_ext
    · rw [str_size, pre_length, hs]
    · intro k hk
      rw [str_size, pre_length] at hk
      rw [bt_ilv o (fun k => place r c k) N k hk, hso k hk]
  rw [hback] at hbd
  have hbd' : Ev (fun k => impl_BlockDeinterleave.f k (r : Int) (c : Int) o) (s, true) := by
    unfold impl_BlockDeinterleave.f
    exact Ev.bind hbd (Ev.now _)
  have hz : whereN r c 0 = List.replicate N 0 := by
    unfold whereN
    rw [hN]
    apply List.ext_getElem
    · rw [List.length_replicate, pre_length]
    · intro k h1 h2
      simp [pre]
  have h2 := IL_l1 r c N hN hN2 hr hr2 hc hc2 m hm s o hs hosz hso N 0 (by omega)
  rw [hz] at h2
  apply Ev.succ
  simp only [laws_FnInterleaved.l0, hw]
  refine Ev.cond (fun h' => absurd h' h1) (fun _ => ?_)
  refine Ev.bind hbi (Ev.bind hbd' ?_)
  refine Ev.cond (fun _ => ?_) (fun h' => absurd rfl h')
  refine Ev.cond (fun _ => ?_) (fun h' => absurd rfl h')
  refine Ev.cond (fun _ => ?_) (fun h' => absurd rfl h')
  have e : ((o.size : Int) != (s.size : Int)) = false := by rw [hosz, hs]; exact bne_self_eq_false _
  rw [e]
  apply Ev.succ
  simp only [laws_FnInterleaved.j1, hw]
  refine Ev.cond (fun h' => absurd h' (by decide)) (fun _ => ?_)
  refine Ev.cond (fun _ => ?_) (fun h' => absurd (by omega) h')
  rw [Int.toNat_natCast]
  refine Ev.cond (fun _ => ?_) (fun h' => absurd (by omega) h')
  exact h2
theorem IL_l0 (r c N : Nat) (hN : r * c = N) (hN2 : N ≤ 400) (hr : 1 ≤ r) (hr2 : r ≤ 20) (hc : 1 ≤ c) (hc2 : c ≤ 20) (m : List Int) (hm : ∀ x ∈ m, (Lit.int .u8 x).wf = true) :
    ∀ (d i : Nat) (s : ByteArray), i + d = N → s.size = i → s.data.toList.all isBitB = true → Ev (fun k => laws_FnInterleaved.l0 k m (r : Int) (c : Int) s (i : Int)) true := by
  have hw : wrap64 ((r : Int) * (c : Int)) = (N : Int) := prodN hN hN2
  intro d
  induction d with
  | zero =>
    intro i s h hs hall
    obtain rfl : i = N := by omega
    exact IL_body r c i hN hN2 hr hr2 hc hc2 m hm s hs hall
  | succ d ih =>
    intro i s h hs hall
    have c1 : (i : Int) < (N : Int) := by omega
    have h0 : 0 ≤ Int.tmod (i : Int) 48 := Int.tmod_nonneg _ (by omega)
    obtain ⟨t, ht, ht0, ht1⟩ := r8At_eq m hm (Int.tmod (i : Int) 48) 2 h0 (by omega)
    have c2 : s.size + (strOfNums ([(wrap64 (48 + t)) % 256] : List Int)).size ≤ 9223372036854775807 := by
      rw [str_size, List.length_singleton]; omega
    have hb : (strOfNums ([(wrap64 (48 + t)) % 256] : List Int)).data.toList.all isBitB = true := by
      have : t = 0 ∨ t = 1 := by omega
      rcases this with rfl | rfl <;> decide +kernel
    have h3 := ih (i + 1) (s ++ strOfNums ([(wrap64 (48 + t)) % 256] : List Int)) (by omega)
      (by rw [ByteArray.size_append, str_size, List.length_singleton, hs])
      (by rw [ByteArray.data_append, Array.toList_append, List.all_append, hall, hb]; rfl)
    apply Ev.succ
    simp only [laws_FnInterleaved.l0, hw]
    refine Ev.cond (fun _ => ?_) (fun h' => absurd c1 h')
    refine Ev.bind (Ev.const ht) ?_
    refine Ev.bind (Ev.const rfl) ?_
    refine Ev.cond (fun _ => ?_) (fun h' => absurd c2 h')
    rw [w64_succ (show i < 9223372036854775807 by omega)]
    exact h3
theorem FnInterleaved : laws_FnInterleaved.Pure := by
  intro l m hl hl2 hlw hm hm2 hmw
  refine Ev.rounds ?_
  unfold laws_FnInterleaved.f
  obtain ⟨b, hb, _⟩ := r8Long_eq l m
  refine Ev.bind (Ev.const hb) ?_
  refine Ev.cond (fun _ => Ev.now _) (fun _ => ?_)
  obtain ⟨t, ht, ht0, ht1⟩ := r8At_eq l hlw 0 8 (by omega) (by omega)
  obtain ⟨u, hu, hu0, hu1⟩ := r8At_eq l hlw 1 8 (by omega) (by omega)
  refine Ev.bind (Ev.const ht) (Ev.bind (Ev.const hu) ?_)
  obtain ⟨t, rfl⟩ := Int.eq_ofNat_of_zero_le ht0
  obtain ⟨u, rfl⟩ := Int.eq_ofNat_of_zero_le hu0
  have w1 : wrap64 (1 + (t : Int)) = ((t + 1 : Nat) : Int) := by rw [w64 (by omega) (by omega)]; omega
  have w2 : wrap64 (1 + (u : Int)) = ((u + 1 : Nat) : Int) := by rw [w64 (by omega) (by omega)]; omega
  rw [w1, w2]
  have hp : (t + 1) * (u + 1) ≤ 20 * 20 := Nat.mul_le_mul (by omega) (by omega)
  exact IL_l0 (t + 1) (u + 1) _ rfl hp (by omega) (by omega) (by omega) (by omega) m hmw _ 0 ⟨#[]⟩ (Nat.zero_add _) rfl rfl

end Go.Proofs.YtckjcighblnnfaaDoor.Pure
