/- For all sides and bursts the program's MostInRow answers what the reference's does. -/
import Derived.Test.YtpbmimgohkbokaaPFnExactMostInRowx1
import Derived.Test.YtpbmimgohkbokaaBase
namespace Go.Proofs.Ytpbmimgohkbokaa.Pure
open Go.RowKit Go.Proofs.Ytpbmimgohkbokaa.PFnExactMostInRow Go.Proofs.Ytpbmimgohkbokaa.Base Go.Proofs.YtpbmimgohkbokaaW.PrintWords Go.Proofs.YtpbmimgohkbokaaW.PrintLast Go.Proofs.YtpbmimgohkbokaaW.PrintMore
set_option linter.unusedVariables false
set_option linter.unusedSimpArgs false

/-! l00In -/
theorem l00In_eq (a b c : Int) : spec_l00In.f a b c = some (decide (b ≤ a ∧ a ≤ c)) := by
  unfold spec_l00In.f
  by_cases h : b ≤ a
  · simp [h, ge_iff_le]
  · simp [h, ge_iff_le]

/-! within -/
theorem within_eq (a b c : Int) : impl_within.f a b c = some (decide (b ≤ a ∧ a ≤ c)) := by
  unfold impl_within.f
  by_cases h : b ≤ a
  · simp [h, ge_iff_le]
  · simp [h, ge_iff_le]

/-! sides -/
theorem l08Block_eq (a b : Int) : spec_l08Block.f a b = some (decide (1 ≤ a ∧ a ≤ 20) && decide (1 ≤ b ∧ b ≤ 20)) := by
  unfold spec_l08Block.f
  simp only [l00In_eq, Option.bind_some]
  by_cases h : 1 ≤ a ∧ a ≤ 20
  · simp [h]
  · simp [h]
theorem areSides_eq (a b : Int) : impl_areSides.f a b = some (decide (1 ≤ a ∧ a ≤ 20) && decide (1 ≤ b ∧ b ≤ 20)) := by
  unfold impl_areSides.f
  simp only [within_eq, Option.bind_some]
  by_cases h : 1 ≤ a ∧ a ≤ 20
  · simp [h]
  · simp [h]

/-! l00Max -/
theorem l00Max_eq (a b : Int) : spec_l00Max.f a b = some (max a b) := by
  unfold spec_l00Max.f
  by_cases h : a > b
  · rw [if_pos h]; congr 1; omega
  · rw [if_neg h]; congr 1; omega

/-! MostInRow -/
theorem MR_prod {a b : Int} (ha : 1 ≤ a) (ha2 : a ≤ 20) (hb : 1 ≤ b) (hb2 : b ≤ 20) : 1 ≤ a * b ∧ a * b ≤ 400 := by
  constructor
  · have := Int.mul_le_mul ha hb (by omega) (by omega); omega
  · have := Int.mul_le_mul ha2 hb2 (by omega) (by omega); omega
theorem div_of {a n q : Int} (ha : 0 < a) (h1 : a * q ≤ n) (h2 : n < a * q + a) : n / a = q := by
  have e1 : q * a ≤ n := by rw [Int.mul_comm]; exact h1
  have e2 : n < (q + 1) * a := by rw [Int.add_mul, Int.one_mul, Int.mul_comm q a]; exact h2
  have g1 := Int.le_ediv_of_mul_le ha e1
  have g2 := Int.ediv_lt_of_lt_mul ha e2
  omega
theorem res_inj {a f o p : Int} (ho : 0 ≤ o) (ho2 : o < a) (hp : 0 ≤ p) (hp2 : p < a) (h : (f + o) % a = (f + p) % a) : o = p := by
  have key : ∀ x y : Int, 0 ≤ x → x < a → 0 ≤ y → y < a → y ≤ x → (f + x) % a = (f + y) % a → x = y := by
    intro x y hx hx2 hy hy2 hyx e
    have e1 := Int.emod_eq_emod_iff_emod_sub_eq_zero.1 e
    have e2 : f + x - (f + y) = x - y := by omega
    rw [e2, Int.emod_eq_of_lt (by omega) (by omega)] at e1
    omega
  rcases Int.le_total o p with h' | h'
  · exact (key p o hp hp2 ho ho2 h' h.symm).symm
  · exact key o p ho ho2 hp hp2 h' h
theorem rd_set_same {xs : List Int} {s v : Int} (h0 : 0 ≤ s) (h : s < (xs.length : Int)) : rd (xs.set s.toNat v) s = v := by
  unfold rd
  rw [List.getD_eq_getElem?_getD, List.getElem?_set_self (by omega)]; rfl
theorem rd_set_ne {xs : List Int} {s t v : Int} (h0 : 0 ≤ s) (h1 : 0 ≤ t) (h : s ≠ t) : rd (xs.set s.toNat v) t = rd xs t := by
  unfold rd
  rw [List.getD_eq_getElem?_getD, List.getD_eq_getElem?_getD, List.getElem?_set_ne (by omega)]
/-- The counts behind j places from place f on. -/
def MR_inv (a f j : Int) (cs : List Int) : Prop := (cs.length : Int) = a ∧ ∀ o, 0 ≤ o → o < a → rd cs ((f + o) % a) = (j + a - 1 - o) / a
theorem MR_zero {a f : Int} (ha : 1 ≤ a) (hf : 0 ≤ f) : MR_inv a f 0 (List.replicate a.toNat 0) := by
  refine ⟨by rw [List.length_replicate]; omega, fun o h0 h1 => ?_⟩
  rw [div_of (q := 0) (by omega) (by omega) (by omega)]
  unfold rd
  rw [List.getD_eq_getElem?_getD, List.getElem?_replicate]
  split <;> rfl
theorem MR_step {a f j : Int} {cs : List Int} (ha : 1 ≤ a) (hf : 0 ≤ f) (hj : 0 ≤ j) (h : MR_inv a f j cs) :
    rd cs ((f + j) % a) = j / a ∧ MR_inv a f (j + 1) (cs.set ((f + j) % a).toNat (j / a + 1)) := by
  obtain ⟨hl, hv⟩ := h
  have e0 : (f + j) % a = (f + j % a) % a := by simp
  have m0 := Int.emod_nonneg j (show a ≠ 0 by omega)
  have m1 := Int.emod_lt_of_pos j (show 0 < a by omega)
  have e1 : a * (j / a) + j % a = j := Int.mul_ediv_add_emod j a
  have r0 := Int.emod_nonneg (f + j) (show a ≠ 0 by omega)
  have r1 := Int.emod_lt_of_pos (f + j) (show 0 < a by omega)
  have hq : rd cs ((f + j) % a) = j / a := by
    rw [e0, hv _ m0 m1]
    exact div_of (by omega) (by omega) (by omega)
  refine ⟨hq, by rw [List.length_set]; exact hl, fun o h0 h1 => ?_⟩
  have ex : a * (j / a + 1) = a * (j / a) + a := by rw [Int.mul_add, Int.mul_one]
  by_cases ho : o = j % a
  · subst ho
    rw [← e0, rd_set_same r0 (by omega)]
    exact (div_of (by omega) (by omega) (by omega)).symm
  · have hne : (f + j) % a ≠ (f + o) % a := fun e => ho (res_inj h0 h1 m0 m1 (by rw [← e0, e]))
    rw [rd_set_ne r0 (Int.emod_nonneg _ (by omega)) hne, hv o h0 h1]
    by_cases hlt : o < j % a
    · have d1 : (j + a - 1 - o) / a = j / a + 1 := div_of (by omega) (by omega) (by omega)
      have d2 : (j + 1 + a - 1 - o) / a = j / a + 1 := div_of (by omega) (by omega) (by omega)
      rw [d1, d2]
    · have d1 : (j + a - 1 - o) / a = j / a := div_of (by omega) (by omega) (by omega)
      have d2 : (j + 1 + a - 1 - o) / a = j / a := div_of (by omega) (by omega) (by omega)
      rw [d1, d2]
theorem MR_best {a j : Int} (ha : 1 ≤ a) (hj : 0 ≤ j) (best : Int) : max (max best ((j + a - 1) / a)) (j / a + 1) = max best ((j + 1 + a - 1) / a) := by
  have m0 := Int.emod_nonneg j (show a ≠ 0 by omega)
  have m1 := Int.emod_lt_of_pos j (show 0 < a by omega)
  have e1 : a * (j / a) + j % a = j := Int.mul_ediv_add_emod j a
  have ex : a * (j / a + 1) = a * (j / a) + a := by rw [Int.mul_add, Int.mul_one]
  have g : (j + 1 + a - 1) / a = j / a + 1 := div_of (by omega) (by omega) (by omega)
  have g2 : (j + a - 1) / a < j / a + 2 := by
    apply Int.ediv_lt_of_lt_mul (by omega)
    rw [Int.mul_comm, Int.mul_add]
    omega
  rw [g]
  omega
theorem MR_inner (a b c best0 f : Int) (ha : 1 ≤ a) (ha2 : a ≤ 20) (hf : 0 ≤ f) (hf2 : f ≤ 400) (hc : 0 ≤ c) (hc2 : c ≤ 400) (r : Int × Bool)
    (next : Ev (fun k => spec_MostInRow.l0 k a b c (max best0 ((c + a - 1) / a)) (f + 1)) r) :
    ∀ (d : Nat) (j : Int) (cs : List Int), 0 ≤ j → j + d = c → MR_inv a f j cs → Ev (fun k => spec_MostInRow.l1 k a b c (max best0 ((j + a - 1) / a)) f cs (f + j)) r := by
  have hfc : wrap64 (f + c) = f + c := w64 (by omega) (by omega)
  have hf1 : wrap64 (f + 1) = f + 1 := w64 (by omega) (by omega)
  intro d
  induction d with
  | zero =>
    intro j cs hj h hinv
    obtain rfl : j = c := by omega
    have h1 : ¬ f + j < f + j := by omega
    apply Ev.succ
    simp only [spec_MostInRow.l1, hfc, h1, if_false, hf1]
    exact next
  | succ d ih =>
    intro j cs hj h hinv
    have h1 : f + j < f + c := by omega
    have h2 : ¬ a = 0 := by omega
    have ht : Int.tmod (f + j) a = (f + j) % a := Int.tmod_eq_emod_of_nonneg (by omega)
    have r0 := Int.emod_nonneg (f + j) (show a ≠ 0 by omega)
    have r1 := Int.emod_lt_of_pos (f + j) (show 0 < a by omega)
    have r2 : (f + j) % a < (cs.length : Int) := by rw [hinv.1]; exact r1
    obtain ⟨hq, hs⟩ := MR_step ha hf hj hinv
    have q0 : 0 ≤ j / a := Int.ediv_nonneg hj (by omega)
    have q1 : j / a ≤ j := Int.ediv_le_self a hj
    have hw : wrap64 (j / a + 1) = j / a + 1 := w64 (by omega) (by omega)
    have hj1 : wrap64 (f + j + 1) = f + (j + 1) := by rw [w64 (by omega) (by omega)]; omega
    have h3 := ih (j + 1) _ (by omega) (by omega) hs
    have hrd : rd (cs.set ((f + j) % a).toNat (j / a + 1)) ((f + j) % a) = j / a + 1 := rd_set_same r0 r2
    apply Ev.succ
    simp only [spec_MostInRow.l1, hfc, h1, if_true, h2, if_false, ht, r0, r2, hq, hw, Option.bind_some, l00Max_eq, hrd, MR_best ha hj, hj1]
    exact h3
theorem MR_outer (a b c : Int) (ha : 1 ≤ a) (ha2 : a ≤ 20) (hb : 1 ≤ b) (hb2 : b ≤ 20) (hc1 : 1 ≤ c) (hc2 : c ≤ a * b) :
    ∀ (d : Nat) (f : Int), 0 ≤ f → f + c + d = a * b + 1 → Ev (fun k => spec_MostInRow.l0 k a b c ((c + a - 1) / a) f) ((c + a - 1) / a, true) := by
  have hp := MR_prod ha ha2 hb hb2
  have hp' : wrap64 (a * b) = a * b := w64 (by omega) (by omega)
  intro d
  induction d with
  | zero =>
    intro f hf h
    have h1 : ¬ wrap64 (f + c) ≤ a * b := by rw [w64 (by omega) (by omega)]; omega
    apply Ev.succ
    simp only [spec_MostInRow.l0, hp', h1, if_false]
    exact Ev.now _
  | succ d ih =>
    intro f hf h
    have h1 : wrap64 (f + c) ≤ a * b := by rw [w64 (by omega) (by omega)]; omega
    have h2 : 0 ≤ a := by omega
    have h3 : a.toNat ≤ 35184372088832 := by omega
    have h4 := ih (f + 1) (by omega) (by omega)
    have e1 : max ((c + a - 1) / a) ((c + a - 1) / a) = (c + a - 1) / a := by omega
    have h5 := MR_inner a b c ((c + a - 1) / a) f ha ha2 hf (by omega) (by omega) (by omega) ((c + a - 1) / a, true) (by rw [e1]; exact h4) c.toNat 0 _ (by omega) (by omega) (MR_zero ha hf)
    have e2 : (0 + a - 1) / a = 0 := div_of (by omega) (by omega) (by omega)
    have e3 : 0 ≤ (c + a - 1) / a := Int.ediv_nonneg (by omega) (by omega)
    have e4 : max ((c + a - 1) / a) 0 = (c + a - 1) / a := by omega
    have e5 : f + 0 = f := by omega
    rw [e2, e4, e5] at h5
    apply Ev.succ
    simp only [spec_MostInRow.l0, hp', h1, h2, h3, if_true]
    exact h5
theorem MR_all (a b c : Int) (ha : 1 ≤ a) (ha2 : a ≤ 20) (hb : 1 ≤ b) (hb2 : b ≤ 20) (hc1 : 1 ≤ c) (hc2 : c ≤ a * b) :
    Ev (fun k => spec_MostInRow.l0 k a b c 0 0) ((c + a - 1) / a, true) := by
  have hp := MR_prod ha ha2 hb hb2
  have hp' : wrap64 (a * b) = a * b := w64 (by omega) (by omega)
  have h1 : wrap64 (0 + c) ≤ a * b := by rw [w64 (by omega) (by omega)]; omega
  have h2 : 0 ≤ a := by omega
  have h3 : a.toNat ≤ 35184372088832 := by omega
  have h4 := MR_outer a b c ha ha2 hb hb2 hc1 hc2 (a * b - c).toNat 1 (by omega) (by omega)
  have e2 : (0 + a - 1) / a = 0 := div_of (by omega) (by omega) (by omega)
  have e3 : 0 ≤ (c + a - 1) / a := Int.ediv_nonneg (by omega) (by omega)
  have e4 : max 0 ((c + a - 1) / a) = (c + a - 1) / a := by omega
  have h5 := MR_inner a b c 0 0 ha ha2 (by omega) (by omega) (by omega) (by omega) ((c + a - 1) / a, true) (by rw [e4]; exact h4) c.toNat 0 _ (by omega) (by omega) (MR_zero ha (by omega))
  rw [e2] at h5
  apply Ev.succ
  simp only [spec_MostInRow.l0, hp', h1, h2, h3, if_true]
  exact h5
def MR_ans (a b c : Int) : Int × Bool := if (1 ≤ a ∧ a ≤ 20) ∧ (1 ≤ b ∧ b ≤ 20) ∧ 1 ≤ c ∧ c ≤ a * b then ((c + a - 1) / a, true) else (0, false)
theorem MR_impl (a b c : Int) : impl_MostInRow.f a b c = some (MR_ans a b c) := by
  unfold impl_MostInRow.f MR_ans
  simp only [areSides_eq, within_eq, Option.bind_some]
  by_cases h1 : 1 ≤ a ∧ a ≤ 20
  · by_cases h2 : 1 ≤ b ∧ b ≤ 20
    · have hp := MR_prod h1.1 h1.2 h2.1 h2.2
      have hp' : wrap64 (a * b) = a * b := w64 (by omega) (by omega)
      by_cases h3 : 1 ≤ c ∧ c ≤ a * b
      · have h4 : ¬ a = 0 := by omega
        have w1 : wrap64 (c + a) = c + a := w64 (by omega) (by omega)
        have w2 : wrap64 (c + a - 1) = c + a - 1 := w64 (by omega) (by omega)
        have w3 : Int.tdiv (c + a - 1) a = (c + a - 1) / a := Int.tdiv_eq_ediv_of_nonneg (by omega)
        have q0 : 0 ≤ (c + a - 1) / a := Int.ediv_nonneg (by omega) (by omega)
        have q1 : (c + a - 1) / a ≤ c + a - 1 := Int.ediv_le_self a (by omega)
        have w4 : wrap64 ((c + a - 1) / a) = (c + a - 1) / a := w64 (by omega) (by omega)
        simp only [h1, h2, h3, h4, hp', and_self, decide_true, Bool.and_self, if_true, if_false, w1, w2, w3, w4]
      · simp [h1, h2, h3, hp']
    · simp [h1, h2]
  · simp [h1]
theorem MR_spec (a b c : Int) : Ev (fun k => spec_MostInRow.f k a b c) (MR_ans a b c) := by
  unfold spec_MostInRow.f MR_ans
  simp only [l08Block_eq, l00In_eq, Option.bind_some]
  by_cases h1 : 1 ≤ a ∧ a ≤ 20
  · by_cases h2 : 1 ≤ b ∧ b ≤ 20
    · have hp := MR_prod h1.1 h1.2 h2.1 h2.2
      have hp' : wrap64 (a * b) = a * b := w64 (by omega) (by omega)
      by_cases h3 : 1 ≤ c ∧ c ≤ a * b
      · simp only [h1, h2, h3, hp', and_self, decide_true, Bool.and_self, if_true, Bool.not_true]
        apply Ev.succ
        simp only [spec_MostInRow.j0, Bool.false_eq_true, if_false]
        exact MR_all a b c h1.1 h1.2 h2.1 h2.2 h3.1 h3.2
      · simp only [h1, h2, h3, hp', and_self, and_false, decide_true, decide_false, Bool.and_self, if_true, if_false, Bool.not_false]
        apply Ev.succ
        simp only [spec_MostInRow.j0, if_true]
        exact Ev.now _
    · simp only [h2, false_and, and_false, decide_false, Bool.and_false, Bool.false_eq_true, if_false]
      apply Ev.succ
      simp only [spec_MostInRow.j0, if_true]
      exact Ev.now _
  · simp only [h1, false_and, decide_false, Bool.false_and, Bool.false_eq_true, if_false]
    apply Ev.succ
    simp only [spec_MostInRow.j0, if_true]
    exact Ev.now _

theorem FnExactMostInRow : laws_FnExactMostInRow.Pure := by
  intro a b c ha hb hc
  refine Ev.rounds ?_
  unfold laws_FnExactMostInRow.f
  simp only [MR_impl, Option.bind_some]
  refine Ev.bind (MR_spec a b c) ?_
  simp only [if_true, bne_self_eq_false, Bool.false_eq_true, if_false]
  exact Ev.now _

end Go.Proofs.Ytpbmimgohkbokaa.Pure
