/- For all sides and bits the program's BlockInterleave answers what the reference's does. -/
import Derived.Test.YtbgiddnffchnpaaDoorQFnExactBlockInterleavex2
import Derived.Test.YtbgiddnffchnpaaDoorBase
namespace Go.Proofs.YtbgiddnffchnpaaDoor.Pure
open Go.RowKit Go.Proofs.YtbgiddnffchnpaaDoor.QFnExactBlockInterleave Go.Proofs.YtbgiddnffchnpaaDoor.Base Go.Proofs.YtbgiddnffchnpaaDoorW.PrintWords Go.Proofs.YtbgiddnffchnpaaDoorW.PrintLast Go.Proofs.YtbgiddnffchnpaaDoorW.PrintMore
set_option linter.unusedVariables false
set_option linter.unusedSimpArgs false

/-! l00In -/
theorem l00In_eq (a b c : Int) : spec_l00In.f a b c = some (decide (b ≤ a ∧ a ≤ c)) := by
  unfold spec_l00In.f
  by_cases h : b ≤ a
  · simp [h, ge_iff_le]
  · simp [h, ge_iff_le]

/-! within -/
theorem within_eq (a b c : Int) : impl_within.f a b c = some (decide (b ≤ a ∧ a ≤ c)) := by
  unfold impl_within.f
  by_cases h : b ≤ a
  · simp [h, ge_iff_le]
  · simp [h, ge_iff_le]

/-! sides -/
theorem l08Block_eq (a b : Int) : spec_l08Block.f a b = some (decide (1 ≤ a ∧ a ≤ 20) && decide (1 ≤ b ∧ b ≤ 20)) := by
  unfold spec_l08Block.f
  simp only [l00In_eq, Option.bind_some]
  by_cases h : 1 ≤ a ∧ a ≤ 20
  · simp [h]
  · simp [h]
theorem areSides_eq (a b : Int) : impl_areSides.f a b = some (decide (1 ≤ a ∧ a ≤ 20) && decide (1 ≤ b ∧ b ≤ 20)) := by
  unfold impl_areSides.f
  simp only [within_eq, Option.bind_some]
  by_cases h : 1 ≤ a ∧ a ≤ 20
  · simp [h]
  · simp [h]

/-! l01Bits -/
theorem l01Bits_l0 (s : ByteArray) (hn : s.size ≤ 1099511627776) : ∀ d n, n + d = s.size → Ev (fun k => spec_l01Bits.l0 k s (n : Int)) ((s.data.toList.drop n).all isBitB && decide (s.size ≤ 400)) := by
  intro d
  induction d with
  | zero =>
    intro n h
    apply Ev.succ
    have h1 : ¬ ((n : Int) < (s.size : Int)) := by omega
    have h2 : s.data.toList.drop n = [] := List.drop_eq_nil_of_le (by rw [size_data]; omega)
    have h3 : ((s.size : Int) ≤ 400) = (s.size ≤ 400) := propext ⟨fun h => by omega, fun h => by omega⟩
    simp only [spec_l01Bits.l0, h1, if_false, h2, h3]
    exact Ev.now _
  | succ d ih =>
    intro n h
    apply Ev.succ
    have hl : n < s.size := by omega
    have h1 : (n : Int) < (s.size : Int) := by omega
    have h2 : (0 : Int) ≤ (n : Int) := by omega
    have h3 := ih (n + 1) (by omega)
    rw [drop_data hl, List.all_cons]
    have hb := bt_nat s n hl
    have hi := isBit_iff (s[n])
    rw [← hb] at hi
    simp only [spec_l01Bits.l0, h1, h2, if_true, w64_succ (show n < 9223372036854775807 by omega)]
    by_cases c1 : bt s (n : Int) = 48
    · rw [hi.2 (.inl c1), Bool.true_and]
      simp only [c1, if_true]; exact h3
    · by_cases c2 : bt s (n : Int) = 49
      · rw [hi.2 (.inr c2), Bool.true_and]
        simp only [c2, if_true, Int.reduceEq, if_false]; exact h3
      · have hf : isBitB (s[n]) = false := by
          rw [Bool.eq_false_iff]; intro hc
          rcases hi.1 hc with hc | hc
          · exact c1 hc
          · exact c2 hc
        simp only [hf, Bool.false_and, c1, c2, if_false]
        exact Ev.now _
theorem l01Bits_ev (s : ByteArray) (hn : s.size ≤ 1099511627776) : Ev (fun k => spec_l01Bits.f k s) (bitsB s) := by
  have h := l01Bits_l0 s hn s.size 0 (by omega)
  exact h

/-! l08Fits -/
def fitsB (a b : Int) (s : ByteArray) : Bool := (decide (1 ≤ a ∧ a ≤ 20) && decide (1 ≤ b ∧ b ≤ 20)) && bitsB s && ((s.size : Int) == a * b)
theorem l08Fits_ev (a b : Int) (s : ByteArray) (hn : s.size ≤ 1099511627776) : Ev (fun k => spec_l08Fits.f k a b s) (fitsB a b s) := by
  unfold spec_l08Fits.f fitsB
  simp only [l08Block_eq, Option.bind_some]
  by_cases h1 : 1 ≤ a ∧ a ≤ 20
  · by_cases h2 : 1 ≤ b ∧ b ≤ 20
    · have hp : a * b ≤ 400 := by have := Int.mul_le_mul h1.2 h2.2 (by omega) (by omega); omega
      have hp0 : 0 ≤ a * b := Int.mul_nonneg (by omega) (by omega)
      have hw : wrap64 (a * b) = a * b := w64 (by omega) (by omega)
      simp only [h1, h2, and_self, decide_true, Bool.and_self, if_true, Bool.true_and, hw]
      refine Ev.bind (l01Bits_ev s hn) ?_
      by_cases h3 : bitsB s = true
      · simp only [h3, if_true, Bool.true_and]; exact Ev.now _
      · simp only [h3, if_false, Bool.false_and]; exact Ev.now _
    · simp only [h2, decide_false, Bool.and_false, Bool.false_and, Bool.false_eq_true, if_false]; exact Ev.now _
  · simp only [h1, decide_false, Bool.false_and, Bool.false_eq_true, if_false]; exact Ev.now _
theorem fitsB_nat {a b : Int} {s : ByteArray} (h : fitsB a b s = true) : ∃ r c : Nat, a = r ∧ b = c ∧ 1 ≤ r ∧ r ≤ 20 ∧ 1 ≤ c ∧ c ≤ 20 ∧ s.size = r * c ∧ r * c ≤ 400 ∧ s.data.toList.all isBitB = true := by
  unfold fitsB at h
  simp only [Bool.and_eq_true, decide_eq_true_eq, beq_iff_eq] at h
  obtain ⟨⟨⟨h1, h2⟩, h3⟩, h4⟩ := h
  obtain ⟨r, rfl⟩ := Int.eq_ofNat_of_zero_le (show 0 ≤ a by omega)
  obtain ⟨c, rfl⟩ := Int.eq_ofNat_of_zero_le (show 0 ≤ b by omega)
  have hp : r * c ≤ 20 * 20 := Nat.mul_le_mul (by omega) (by omega)
  unfold bitsB at h3
  rw [Bool.and_eq_true] at h3
  exact ⟨r, c, rfl, rfl, by omega, by omega, by omega, by omega, by exact_mod_cast h4, hp, h3.1⟩

/-! IsBits -/
theorem trim_bits (s : ByteArray) (h : s.size ≤ 9223372036854775807) : strings_Trim.f s (⟨#[48, 49]⟩ : ByteArray) = some ⟨(Lib.trimS s.data.toList [48, 49]).toArray⟩ := by
  unfold strings_Trim.f
  rw [if_pos ⟨h, by decide, by decide⟩]
theorem areBits_eq (s : ByteArray) (h : s.size ≤ 9223372036854775807) : impl_areBits.f s = some (s.data.toList.all isBitB) := by
  unfold impl_areBits.f
  rw [trim_bits s h, Option.bind_some]
  congr 1
  have e1 : (⟨(Lib.trimS s.data.toList [48, 49]).toArray⟩ : ByteArray).toList = Lib.trimS s.data.toList [48, 49] := by rw [Lib.toList_data]
  rw [e1, Bool.eq_iff_iff, beq_iff_eq, trimS_nil]
  have e2 : (fun b => ([48, 49] : List UInt8).contains b) = isBitB := funext contains_bits
  rw [e2]
theorem IsBits_eq (s : ByteArray) (h : s.size ≤ 9223372036854775807) : impl_IsBits.f s = some (bitsB s) := by
  unfold impl_IsBits.f bitsB
  by_cases h4 : s.size ≤ 400
  · have h4' : (s.size : Int) ≤ 400 := by omega
    simp only [h4', if_true, areBits_eq s h, Option.bind_some, h4, decide_true, Bool.and_true]
  · have h4' : ¬ (s.size : Int) ≤ 400 := by omega
    simp only [h4', if_false, h4, decide_false, Bool.and_false]

/-! BlockInterleave -/
theorem isBlock_eq (a b : Int) (s : ByteArray) (h : s.size ≤ 1099511627776) : impl_isBlock.f a b s = some (fitsB a b s) := by
  unfold impl_isBlock.f fitsB
  simp only [areSides_eq, Option.bind_some, IsBits_eq s (by omega)]
  by_cases h1 : 1 ≤ a ∧ a ≤ 20
  · by_cases h2 : 1 ≤ b ∧ b ≤ 20
    · have hp : a * b ≤ 400 := by have := Int.mul_le_mul h1.2 h2.2 (by omega) (by omega); omega
      have hp0 : 0 ≤ a * b := Int.mul_nonneg (by omega) (by omega)
      have hw : wrap64 (a * b) = a * b := w64 (by omega) (by omega)
      simp only [h1, h2, and_self, decide_true, Bool.and_self, if_true, Bool.true_and, hw]
      by_cases h3 : bitsB s = true
      · simp only [h3, if_true, Bool.true_and]
      · simp only [h3, if_false, Bool.false_and, Bool.false_eq_true]
    · simp only [h2, decide_false, Bool.and_false, Bool.false_and, Bool.false_eq_true, if_false]
  · simp only [h1, decide_false, Bool.false_and, Bool.false_eq_true, if_false]
theorem behindPlace_eq {r c i : Nat} (hc : 1 ≤ c) (hr : r ≤ 20) (hc2 : c ≤ 20) (hi : i < r * c) (hb : r * c ≤ 400) : impl_behindPlace.f (r : Int) (c : Int) (i : Int) = some (place r c i : Int) := by
  unfold impl_behindPlace.f
  rw [if_neg (by omega)]
  have e1 : Int.tmod (i : Int) (c : Int) = ((i % c : Nat) : Int) := by rw [Int.tmod_eq_emod_of_nonneg (by omega)]; rfl
  have e2 : Int.tdiv (i : Int) (c : Int) = ((i / c : Nat) : Int) := by rw [Int.tdiv_eq_ediv_of_nonneg (by omega)]; rfl
  have e3 : ((i % c : Nat) : Int) * (r : Int) = ((i % c * r : Nat) : Int) := by push_cast; rfl
  have hpl := place_lt hi
  unfold place at hpl ⊢
  rw [e1, e2, e3]
  clear e1 e2 e3
  generalize i % c * r = m at hpl ⊢
  generalize i / c = q at hpl ⊢
  have w1 : wrap64 (m : Int) = (m : Int) := w64 (by omega) (by omega)
  have w2 : wrap64 (q : Int) = (q : Int) := w64 (by omega) (by omega)
  rw [w1, w2, w64 (by omega) (by omega)]
  congr 1
def fillN (s : ByteArray) (r c i : Nat) : List Int := pre (fun k => if place c r k < i then bt s (place c r k : Nat) else 0) (r * c)
theorem fill_step (s : ByteArray) (r c i : Nat) (hi : i < r * c) : (fillN s r c i).set (place r c i) (bt s (i : Nat)) = fillN s r c (i + 1) := by
  apply List.ext_getElem
  · simp [fillN, pre_length]
  · intro k h1 h2
    have hk : k < r * c := by simpa [fillN, pre_length] using h2
    have hk' : k < c * r := by rw [Nat.mul_comm]; exact hk
    rw [List.getElem_set]
    simp only [fillN, pre, List.getElem_map, List.getElem_range]
    by_cases e : place r c i = k
    · rw [if_pos e]
      have e2 : place c r k = i := by rw [← e]; exact place_inv hi
      rw [e2, if_pos (by omega)]
    · rw [if_neg e]
      have hne : place c r k ≠ i := fun e2 => e (by rw [← e2]; exact place_inv hk')
      by_cases hlt : place c r k < i
      · rw [if_pos hlt, if_pos (by omega)]
      · rw [if_neg hlt, if_neg (by omega)]
theorem BI_l0 (r c : Nat) (s : ByteArray) (hr : 1 ≤ r) (hr2 : r ≤ 20) (hc : 1 ≤ c) (hc2 : c ≤ 20) (hs : s.size = r * c) (hb : r * c ≤ 400) : ∀ (d i : Nat), i + d = r * c →
    Ev (fun k => impl_BlockInterleave.l0 k (r : Int) (c : Int) s (fillN s r c i) (s.size : Int) (i : Int)) (strOfNums (pre (fun k => bt s (place c r k : Nat)) (r * c)), true) := by
  intro d
  induction d with
  | zero =>
    intro i h
    have c1 : ¬ ((i : Int) < (s.size : Int)) := by omega
    have e : fillN s r c i = pre (fun k => bt s (place c r k : Nat)) (r * c) := by
      unfold fillN
      apply pre_congr
      intro k hk
      have := place_lt (r := c) (c := r) (i := k) (by rw [Nat.mul_comm]; exact hk)
      rw [Nat.mul_comm c r] at this
      show (if place c r k < i then _ else _) = _
      rw [if_pos (by omega)]
    apply Ev.succ
    simp only [impl_BlockInterleave.l0, c1, if_false, e]
    exact Ev.now _
  | succ d ih =>
    intro i h
    have hi : i < r * c := by omega
    have c1 : (i : Int) < (s.size : Int) := by omega
    have c2 : (0 : Int) ≤ (i : Int) := by omega
    have c3 : (0 : Int) ≤ (place r c i : Int) := by omega
    have hpl := place_lt hi
    have c4 : (place r c i : Int) < ((fillN s r c i).length : Int) := by unfold fillN; rw [pre_length]; omega
    have h3 := ih (i + 1) (by omega)
    rw [← fill_step s r c i hi] at h3
    apply Ev.succ
    simp only [impl_BlockInterleave.l0]
    refine Ev.cond (fun _ => ?_) (fun h' => absurd c1 h')
    refine Ev.bind (Ev.const (behindPlace_eq hc hr2 hc2 hi hb)) ?_
    refine Ev.cond (fun _ => ?_) (fun h' => absurd c2 h')
    refine Ev.cond (fun _ => ?_) (fun h' => absurd c1 h')
    refine Ev.cond (fun _ => ?_) (fun h' => absurd c3 h')
    refine Ev.cond (fun _ => ?_) (fun h' => absurd c4 h')
    rw [Int.toNat_natCast, w64_succ (show i < 9223372036854775807 by omega)]
    exact h3
theorem BI_ev (a b : Int) (s : ByteArray) (hn : s.size ≤ 1099511627776) : Ev (fun k => impl_BlockInterleave.f k a b s) (if fitsB a b s = true then (strOfNums (pre (fun k => bt s (place b.toNat a.toNat k : Nat)) s.size), true) else (⟨#[]⟩, false)) := by
  unfold impl_BlockInterleave.f
  simp only [isBlock_eq a b s hn, Option.bind_some]
  by_cases h : fitsB a b s = true
  · obtain ⟨r, c, rfl, rfl, hr, hr2, hc, hc2, hs, hb, _⟩ := fitsB_nat h
    have c1 : (0 : Int) ≤ (s.size : Int) := by omega
    have c2 : s.size ≤ 281474976710656 := by omega
    have e : List.replicate s.size (0 : Int) = fillN s r c 0 := by
      unfold fillN
      apply List.ext_getElem
      · rw [List.length_replicate, pre_length, hs]
      · intro k h1 h2
        simp [pre]
    simp only [h, if_true, c1, Int.toNat_natCast, c2, e]
    have h3 := BI_l0 r c s hr hr2 hc hc2 hs hb (r * c) 0 (by omega)
    rw [hs] at h3 ⊢
    exact h3
  · simp only [h, if_false]; exact Ev.now _

/-! specInt -/
theorem BlockInterleave_l0 (rows cols : Nat) (s : ByteArray) (ho : rows ≤ 20) (hi : cols ≤ 20) (hs : s.size = rows * cols) (hb : rows * cols ≤ 400) :
    ∀ (d o : Nat), o + d = cols → Ev (fun k => spec_BlockInterleave.l0 k (rows : Int) (cols : Int) s (pre (fun k => bt s (place cols rows k : Nat)) (o * rows)) (o : Int)) (strOfNums (pre (fun k => bt s (place cols rows k : Nat)) (rows * cols)), true) := by
  intro d
  induction d with
  | zero =>
    intro o h
    obtain rfl : cols = o := by omega
    have c1 : ¬ (((cols : Nat) : Int) < ((cols : Nat) : Int)) := by omega
    apply Ev.succ
    simp only [spec_BlockInterleave.l0, c1, if_false]
    rw [Nat.mul_comm cols rows]; exact Ev.now _
  | succ d ih =>
    intro o h
    have c1 : (o : Int) < ((cols : Nat) : Int) := by omega
    have hlt : o < cols := by omega
    have hmul : o * rows + rows ≤ rows * cols := by
      have h1 : (o + 1) * rows ≤ cols * rows := Nat.mul_le_mul_right _ hlt
      rw [Nat.succ_mul] at h1
      rw [Nat.mul_comm cols rows] at h1; omega
    have h3 := ih (o + 1) (by omega)
    have inner : ∀ (e i : Nat), i + e = rows → Ev (fun k => spec_BlockInterleave.l1 k (rows : Int) (cols : Int) s (pre (fun k => bt s (place cols rows k : Nat)) (o * rows + i)) (o : Int) (i : Int)) (strOfNums (pre (fun k => bt s (place cols rows k : Nat)) (rows * cols)), true) := by
      intro e
      induction e with
      | zero =>
        intro i h2
        obtain rfl : rows = i := by omega
        have c2 : ¬ (((rows : Nat) : Int) < ((rows : Nat) : Int)) := by omega
        apply Ev.succ
        simp only [spec_BlockInterleave.l1, c2, if_false, w64_succ (show o < 9223372036854775807 by omega)]
        rw [Nat.succ_mul] at h3
        exact h3
      | succ e ihe =>
        intro i h2
        have c2 : (i : Int) < ((rows : Nat) : Int) := by omega
        have hp : place cols rows (o * rows + i) = i * cols + o := by
          unfold place
          have hin : i < rows := by omega
          rw [Nat.mul_comm o, Nat.mul_add_mod, Nat.mod_eq_of_lt hin, Nat.mul_add_div (by omega), Nat.div_eq_of_lt hin, Nat.add_zero]
        have hidx : i * cols + o < s.size := by
          rw [hs]
          have h4 : (i + 1) * cols ≤ rows * cols := Nat.mul_le_mul_right _ (by omega)
          rw [Nat.succ_mul] at h4
          omega
        have hprod : (i : Int) * (cols : Int) = ((i * cols : Nat) : Int) := by push_cast; rfl
        have hsz : s.size ≤ 400 := by rw [hs]; exact hb
        generalize i * cols = m at hp hidx hprod
        have w1 : wrap64 ((i : Int) * (cols : Int)) = (m : Int) := by rw [hprod]; exact w64 (by omega) (by omega)
        have hmo : m + o ≤ 9223372036854775807 := Nat.le_trans (Nat.le_of_lt hidx) (Nat.le_trans hsz (by decide))
        have w2 : wrap64 ((m : Int) + (o : Int)) = ((m + o : Nat) : Int) := w64_add m o hmo
        have c3 : (0 : Int) ≤ ((m + o : Nat) : Int) := Int.natCast_nonneg _
        have c4 : ((m + o : Nat) : Int) < (s.size : Int) := Int.ofNat_lt.2 hidx
        have c5 : (pre (fun k => bt s (place cols rows k : Nat)) (o * rows + i)).length < 140737488355328 := by rw [pre_length]; omega
        have h5 := ihe (i + 1) (by omega)
        rw [← Nat.add_assoc, pre_succ, hp] at h5
        apply Ev.succ
        simp only [spec_BlockInterleave.l1]
        refine Ev.cond (fun _ => ?_) (fun h' => absurd c2 h')
        rw [w1, w2]
        refine Ev.cond (fun _ => ?_) (fun h' => absurd c3 h')
        refine Ev.cond (fun _ => ?_) (fun h' => absurd c4 h')
        refine Ev.cond (fun _ => ?_) (fun h' => absurd c5 h')
        rw [w64_succ (show i < 9223372036854775807 by omega)]
        exact h5
    apply Ev.succ
    simp only [spec_BlockInterleave.l0, c1, if_true]
    exact inner rows 0 (by omega)

theorem BIx_ev (a b : Int) (s : ByteArray) (hn : s.size ≤ 1099511627776) : ∃ r, Ev (fun k => spec_BlockInterleave.f k a b s) r ∧ Ev (fun k => impl_BlockInterleave.f k a b s) r := by
  refine ⟨if fitsB a b s = true then (strOfNums (pre (fun k => bt s (place b.toNat a.toNat k : Nat)) s.size), true) else (⟨#[]⟩, false), ?_, BI_ev a b s hn⟩
  unfold spec_BlockInterleave.f
  refine Ev.bind (l08Fits_ev a b s hn) ?_
  by_cases h : fitsB a b s = true
  · obtain ⟨r, c, rfl, rfl, hr, hr2, hc, hc2, hs, hb, _⟩ := fitsB_nat h
    simp only [h, if_true, Int.toNat_natCast]
    have h3 := BlockInterleave_l0 r c s hr2 hc2 hs hb c 0 (by omega)
    rw [Nat.zero_mul] at h3
    rw [hs]
    exact h3
  · simp only [h, if_false]; exact Ev.now _
theorem FnExactBlockInterleave : laws_FnExactBlockInterleave.Pure := by
  intro a b s ha hb hs
  refine Ev.rounds ?_
  unfold laws_FnExactBlockInterleave.f
  by_cases hl : (s.size : Int) > 1048576
  · simp only [hl, if_true]; exact Ev.now _
  obtain ⟨r, h1, h2⟩ := BIx_ev a b s (by omega)
  simp only [hl, if_false]
  refine Ev.bind h1 (Ev.bind h2 ?_)
  simp only [if_true, bne_self_eq_false, Bool.false_eq_true, if_false]
  exact Ev.now _

end Go.Proofs.YtbgiddnffchnpaaDoor.Pure
