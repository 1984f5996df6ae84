/- For every number the program's CheckOrder answers what the reference's does. -/
import Derived.Test.YtpbmimgohkbokaaQFnExactCheckOrderx1
import Derived.Test.YtpbmimgohkbokaaBase
import Derived.Test.YtpbmimgohkbokaaPoly
namespace Go.Proofs.Ytpbmimgohkbokaa.Pure
open Go.RowKit Go.Proofs.Ytpbmimgohkbokaa.QFnExactCheckOrder Go.Proofs.Ytpbmimgohkbokaa.Base Go.Proofs.YtpbmimgohkbokaaW.PrintWords Go.Proofs.YtpbmimgohkbokaaW.PrintLast Go.Proofs.YtpbmimgohkbokaaW.PrintMore
open Go.Proofs.Ytpbmimgohkbokaa.Poly
set_option linter.unusedVariables false
set_option linter.unusedSimpArgs false

/-! within -/
theorem within_eq (a b c : Int) : impl_within.f a b c = some (decide (b ≤ a ∧ a ≤ c)) := by
  unfold impl_within.f
  by_cases h : b ≤ a
  · simp [h, ge_iff_le]
  · simp [h, ge_iff_le]

/-! l00In -/
theorem l00In_eq (a b c : Int) : spec_l00In.f a b c = some (decide (b ≤ a ∧ a ≤ c)) := by
  unfold spec_l00In.f
  by_cases h : b ≤ a
  · simp [h, ge_iff_le]
  · simp [h, ge_iff_le]

/-! degree -/
theorem IsCheck_eq (p : Int) : impl_IsCheck.f p = some (decide (2 ≤ p ∧ p ≤ 131071)) := by
  unfold impl_IsCheck.f
  rw [within_eq]; rfl
theorem l08Check_eq (p : Int) : spec_l08Check.f p = some (decide (2 ≤ p ∧ p ≤ 131071)) := by
  unfold spec_l08Check.f
  rw [l00In_eq]; rfl
theorem p_lt64 {p : Nat} (h : p ≤ 131071) : p < 2 ^ 64 := Nat.lt_of_le_of_lt h (by decide)
theorem deg16 {p : Nat} (h1 : 2 ≤ p) (h2 : p ≤ 131071) : deg p ≤ 16 := deg_le (by omega) (p_lt64 h2) (Nat.lt_of_le_of_lt h2 (by decide))
theorem pow16 {p : Nat} (h1 : 2 ≤ p) (h2 : p ≤ 131071) : 2 ^ deg p ≤ 65536 := by
  have := Nat.pow_le_pow_right (show 0 < 2 by decide) (deg16 h1 h2)
  simpa using this
theorem degree_eq {p : Nat} (h1 : 2 ≤ p) (h2 : p ≤ 131071) : impl_degree.f (p : Int) = some (deg p : Int) := by
  unfold impl_degree.f bits_Len64.f
  rw [u64_nat (show p < 2 ^ 63 by exact Nat.lt_of_le_of_lt h2 (by decide)), if_pos ⟨by omega, by omega⟩, Option.bind_some, Int.toNat_natCast, bitLen_deg (by omega) (p_lt64 h2)]
  have := deg16 h1 h2
  rw [w64 (by omega) (by omega)]
  congr 1; omega
theorem times_eq {p r : Nat} (h1 : 2 ≤ p) (h2 : p ≤ 131071) (hr : r < 2 ^ deg p) : impl_times.f (p : Int) (r : Int) = some (T p r : Int) := by
  unfold impl_times.f
  have h16 := deg16 h1 h2
  have hp := pow16 h1 h2
  rw [degree_eq h1 h2, Option.bind_some, if_pos (by omega)]
  have e1 : wrap64 ((r : Int) * 2) = ((2 * r : Nat) : Int) := by rw [w64 (by omega) (by omega)]; omega
  rw [e1, shr_nat _ _ (by omega), bits_xor (by omega) (by omega)]
  unfold T
  by_cases h : 2 * r / 2 ^ deg p = 1
  · have h' : ((2 * r / 2 ^ deg p : Nat) : Int) = 1 := by rw [h]; rfl
    rw [if_pos h', if_pos h]
  · have h' : ¬ ((2 * r / 2 ^ deg p : Nat) : Int) = 1 := by omega
    rw [if_neg h', if_neg h]
theorem l08Degree_l0 : ∀ (f X n : Nat), 1 ≤ X → X < 2 ^ f → n + f ≤ 1000 → Ev (fun k => spec_l08Degree.l0 k (X : Int) (n : Int)) ((n + dg f X : Nat) : Int) := by
  intro f
  induction f with
  | zero => intro X n h1 h2; simp at h2; omega
  | succ f ih =>
    intro X n h1 h2 h3
    apply Ev.succ
    unfold dg
    by_cases h : X ≤ 1
    · have h' : ¬ (X : Int) > 1 := by omega
      simp only [spec_l08Degree.l0, h', if_false, h, if_true, Nat.add_zero]; exact Ev.now _
    · have h' : (X : Int) > 1 := by omega
      have hp : 2 ^ (f + 1) = 2 * 2 ^ f := by rw [Nat.pow_succ, Nat.mul_comm]
      have e : (X : Int) / 2 = ((X / 2 : Nat) : Int) := by omega
      have h4 := ih (X / 2) (n + 1) (by omega) (by omega) (by omega)
      have e2 : n + 1 + dg f (X / 2) = n + (dg f (X / 2) + 1) := by omega
      rw [e2] at h4
      simp only [spec_l08Degree.l0, h', if_true, h, if_false, e, w64_succ (show n < 9223372036854775807 by omega)]; exact h4
theorem l08Degree_ev {p : Nat} (h1 : 2 ≤ p) (h2 : p ≤ 131071) : Ev (fun k => spec_l08Degree.f k (p : Int)) (deg p : Int) := by
  have h := l08Degree_l0 64 p 0 (by omega) (p_lt64 h2) (by omega)
  rw [Nat.zero_add] at h
  exact h
theorem l08Next_ev {p r b : Nat} (h1 : 2 ≤ p) (h2 : p ≤ 131071) (hr : r < 2 ^ deg p) (hb : b < 2) : Ev (fun k => spec_l08Next.f k (p : Int) (r : Int) (b : Int)) ((T p r ^^^ b : Nat) : Int) := by
  unfold spec_l08Next.f
  refine Ev.bind (l08Degree_ev h1 h2) ?_
  have h16 := deg16 h1 h2
  have hp := pow16 h1 h2
  have e1 : wrap64 ((r : Int) * 2) = ((2 * r : Nat) : Int) := by rw [w64 (by omega) (by omega)]; omega
  have e2 : IntKind.u64.wrap (deg p : Int) = (deg p : Int) := u64_nat (by omega)
  have e3 : (0 : Int) ≤ (deg p : Int) := by omega
  have hor : 2 * r ||| b < 2 ^ 62 := by rw [dbl_or hb]; omega
  have e4 : Go.bits .or .i64 ((2 * r : Nat) : Int) (b : Int) = ((2 * r ||| b : Nat) : Int) := bits_or (by omega) (by omega)
  have e5 := shr_nat (2 * r ||| b) (deg p) (by omega)
  have e6 : Go.bits .xor .i64 ((2 * r ||| b : Nat) : Int) (p : Int) = (((2 * r ||| b) ^^^ p : Nat) : Int) := bits_xor hor (by omega)
  simp only [e1, e2, e3, if_true, e4, e5, e6]
  have hn := next_T h1 (p_lt64 h2) hr hb
  rw [← hn]
  by_cases h : (2 * r ||| b) / 2 ^ deg p > 0
  · have h' : ((((2 * r ||| b) / 2 ^ deg p : Nat)) : Int) > 0 := by omega
    simp only [h, h', if_true]; exact Ev.now _
  · have h' : ¬ ((((2 * r ||| b) / 2 ^ deg p : Nat)) : Int) > 0 := by omega
    simp only [h, h', if_false]; exact Ev.now _

/-! CheckOrder -/
/-- Times x is one to one where the bit 0 of the polynomial is 1. -/
theorem T_inj {p r s : Nat} (h1 : 2 ≤ p) (h2 : p < 2 ^ 64) (hodd : p % 2 = 1) (hr : r < 2 ^ deg p) (hs : s < 2 ^ deg p) (h : T p r = T p s) : r = s := by
  have par : ∀ x : Nat, ((2 * x) ^^^ p) % 2 = 1 := by
    intro x
    have e := Nat.testBit_xor (2 * x) p 0
    have e1 : (2 * x).testBit 0 = false := by simp [Nat.testBit_zero]
    have e2 : p.testBit 0 = true := by rw [Nat.testBit_zero]; simp [hodd]
    rw [e1, e2, Nat.testBit_zero] at e
    simpa using e
  unfold T at h
  rcases dbl_div hr with ⟨a1, a2⟩ | ⟨a1, a2, a3⟩ <;> rcases dbl_div hs with ⟨b1, b2⟩ | ⟨b1, b2, b3⟩
  · rw [if_neg (by omega), if_neg (by omega)] at h; omega
  · rw [if_neg (by omega), if_pos b1] at h
    have := par s; omega
  · rw [if_pos a1, if_neg (by omega)] at h
    have := par r; omega
  · rw [if_pos a1, if_pos b1] at h
    have h' : ((2 * r) ^^^ p) ^^^ p = ((2 * s) ^^^ p) ^^^ p := by rw [h]
    rw [Nat.xor_assoc, Nat.xor_assoc, Nat.xor_self, Nat.xor_zero, Nat.xor_zero] at h'
    omega
/-- Of more numbers than there is room for two are equal. -/
theorem pigeon : ∀ (N : Nat) (f : Nat → Nat), (∀ i, i ≤ N → f i < N) → ∃ i j, i < j ∧ j ≤ N ∧ f i = f j := by
  intro N
  induction N with
  | zero => intro f h; exact absurd (h 0 (Nat.le_refl _)) (by omega)
  | succ N ih =>
    intro f h
    by_cases he : ∃ i, i < N + 1 ∧ f i = f (N + 1)
    · obtain ⟨i, hi, hf⟩ := he
      exact ⟨i, N + 1, hi, Nat.le_refl _, hf⟩
    · have hne : ∀ i, i < N + 1 → f i ≠ f (N + 1) := fun i hi hf => he ⟨i, hi, hf⟩
      have hlast := h (N + 1) (Nat.le_refl _)
      obtain ⟨i, j, h1, h2, h3⟩ := ih (fun i => if f i = N then f (N + 1) else f i) (fun i hi => by
        show (if f i = N then f (N + 1) else f i) < N
        have h4 := h i (by omega)
        have h5 := hne i (by omega)
        split <;> omega)
      refine ⟨i, j, h1, by omega, ?_⟩
      have h3' : (if f i = N then f (N + 1) else f i) = (if f j = N then f (N + 1) else f j) := h3
      have h5 := hne i (by omega)
      have h6 := hne j (by omega)
      split at h3' <;> split at h3' <;> omega
theorem iterT_add (p : Nat) : ∀ (m n r : Nat), iterT p (m + n) r = iterT p n (iterT p m r) := by
  intro m
  induction m with
  | zero => intro n r; rw [Nat.zero_add]; rfl
  | succ m ih => intro n r; rw [Nat.succ_add, iterT, ih]; rfl
theorem iterT_lt' {p : Nat} (h1 : 2 ≤ p) (h2 : p < 2 ^ 64) : ∀ (n r : Nat), r < 2 ^ deg p → iterT p n r < 2 ^ deg p := by
  intro n
  induction n with
  | zero => intro r hr; exact hr
  | succ n ih => intro r hr; exact ih _ (T_lt h1 h2 hr)
theorem iterT_inj {p : Nat} (h1 : 2 ≤ p) (h2 : p < 2 ^ 64) (hodd : p % 2 = 1) : ∀ (n r s : Nat), r < 2 ^ deg p → s < 2 ^ deg p → iterT p n r = iterT p n s → r = s := by
  intro n
  induction n with
  | zero => intro r s _ _ h; exact h
  | succ n ih => intro r s hr hs h; exact T_inj h1 h2 hodd hr hs (ih _ _ (T_lt h1 h2 hr) (T_lt h1 h2 hs) h)
theorem order_ex {p : Nat} (h1 : 2 ≤ p) (h2 : p ≤ 131071) (hodd : p % 2 = 1) : ∃ n, 1 ≤ n ∧ n ≤ 65536 ∧ iterT p n 1 = 1 := by
  have h64 := p_lt64 h2
  have hp := pow16 h1 h2
  have hd := deg_pos h1 h64
  have h1lt : 1 < 2 ^ deg p := by
    have := Nat.pow_le_pow_right (show 0 < 2 by decide) hd
    simp at this; omega
  obtain ⟨i, j, hij, hj, he⟩ := pigeon (2 ^ deg p) (fun i => iterT p i 1) (fun i _ => iterT_lt' h1 h64 i 1 h1lt)
  have he' : iterT p i 1 = iterT p j 1 := he
  refine ⟨j - i, by omega, by omega, ?_⟩
  have e : j = (j - i) + i := by omega
  rw [e, iterT_add] at he'
  exact (iterT_inj h1 h64 hodd i 1 _ h1lt (iterT_lt' h1 h64 _ _ h1lt) he').symm
theorem order_loop {p : Nat} (h1 : 2 ≤ p) (h2 : p ≤ 131071) : ∀ (d r m : Nat), r < 2 ^ deg p → iterT p d r = 1 → m + d ≤ 1000000 →
    ∃ q, Ev (fun k => impl_CheckOrder.l0 k (p : Int) (r : Int) (m : Int)) q ∧ Ev (fun k => spec_CheckOrder.l0 k (p : Int) 1 (r : Int) (m : Int)) q := by
  intro d
  induction d with
  | zero =>
    intro r m hr h hm
    have h : r = 1 := h
    subst h
    refine ⟨((m : Int), true), Ev.succ ?_, Ev.succ ?_⟩
    · simp only [impl_CheckOrder.l0, Int.natCast_one, if_true]; exact Ev.now _
    · simp only [spec_CheckOrder.l0, Int.natCast_one, if_true]; exact Ev.now _
  | succ d ih =>
    intro r m hr h hm
    by_cases h1' : r = 1
    · subst h1'
      refine ⟨((m : Int), true), Ev.succ ?_, Ev.succ ?_⟩
      · simp only [impl_CheckOrder.l0, Int.natCast_one, if_true]; exact Ev.now _
      · simp only [spec_CheckOrder.l0, Int.natCast_one, if_true]; exact Ev.now _
    · have c : ¬ (r : Int) = 1 := by omega
      have hw := w64_succ (show m < 9223372036854775807 by omega)
      obtain ⟨q, q1, q2⟩ := ih (T p r) (m + 1) (T_lt h1 (p_lt64 h2) hr) h (by omega)
      refine ⟨q, Ev.succ ?_, Ev.succ ?_⟩
      · simp only [impl_CheckOrder.l0, c, if_false, times_eq h1 h2 hr, Option.bind_some, hw]; exact q1
      · simp only [spec_CheckOrder.l0, c, if_false, hw]
        have hx := l08Next_ev (b := 0) h1 h2 hr (by omega)
        rw [Nat.xor_zero] at hx
        exact Ev.bind hx q2

theorem CO_ev (p : Int) : ∃ r, Ev (fun k => spec_CheckOrder.f k p) r ∧ Ev (fun k => impl_CheckOrder.f k p) r := by
  unfold spec_CheckOrder.f impl_CheckOrder.f
  simp only [l08Check_eq, IsCheck_eq, Option.bind_some]
  by_cases h1 : 2 ≤ p ∧ p ≤ 131071
  · simp only [h1, and_self, decide_true, if_true]
    have ht : Int.tmod p 2 = p % 2 := Int.tmod_eq_emod_of_nonneg (by omega)
    rw [ht]
    by_cases h2 : p % 2 = 0
    · have e : (p % 2 == 0) = true := by rw [h2]; rfl
      rw [e]
      refine ⟨(0, false), Ev.succ ?_, Ev.succ ?_⟩
      · simp only [spec_CheckOrder.j0, if_true]; exact Ev.now _
      · simp only [impl_CheckOrder.j0, if_true]; exact Ev.now _
    · have e : (p % 2 == 0) = false := beq_eq_false_iff_ne.2 h2
      rw [e]
      obtain ⟨P, rfl⟩ := Int.eq_ofNat_of_zero_le (show 0 ≤ p by omega)
      have g1 : 2 ≤ P := by omega
      have g2 : P ≤ 131071 := by omega
      obtain ⟨n, hn1, hn2, hn⟩ := order_ex g1 g2 (by omega)
      obtain ⟨m, rfl⟩ : ∃ m, n = m + 1 := ⟨n - 1, by omega⟩
      have hd := deg_pos g1 (p_lt64 g2)
      have h1lt : 1 < 2 ^ deg P := by
        have := Nat.pow_le_pow_right (show 0 < 2 by decide) hd
        simp at this; omega
      have hT : T P 1 < 2 ^ deg P := T_lt g1 (p_lt64 g2) h1lt
      obtain ⟨q, q1, q2⟩ := order_loop g1 g2 m (T P 1) 1 hT hn (by omega)
      refine ⟨q, Ev.succ ?_, Ev.succ ?_⟩
      · simp only [spec_CheckOrder.j0, Bool.false_eq_true, if_false]
        have hx := l08Next_ev (p := P) (r := 0) (b := 1) g1 g2 (Nat.two_pow_pos _) (by omega)
        rw [T_zero, Nat.zero_xor] at hx
        refine Ev.bind hx ?_
        have hy := l08Next_ev (p := P) (r := 1) (b := 0) g1 g2 h1lt (by omega)
        rw [Nat.xor_zero] at hy
        exact Ev.bind hy q2
      · simp only [impl_CheckOrder.j0, Bool.false_eq_true, if_false]
        have hz := times_eq (p := P) (r := 1) g1 g2 h1lt
        have hz' : impl_times.f (P : Int) 1 = some (T P 1 : Int) := hz
        simp only [hz', Option.bind_some]
        exact q1
  · simp only [h1, decide_false, Bool.false_eq_true, if_false]
    refine ⟨(0, false), Ev.succ ?_, Ev.succ ?_⟩
    · simp only [spec_CheckOrder.j0, if_true]; exact Ev.now _
    · simp only [impl_CheckOrder.j0, if_true]; exact Ev.now _
theorem FnExactCheckOrder : laws_FnExactCheckOrder.Pure := by
  intro a ha
  refine Ev.rounds ?_
  unfold laws_FnExactCheckOrder.f
  obtain ⟨r, h1, h2⟩ := CO_ev a
  refine Ev.bind h1 (Ev.bind h2 ?_)
  simp only [if_true, bne_self_eq_false, Bool.false_eq_true, if_false]
  exact Ev.now _

end Go.Proofs.Ytpbmimgohkbokaa.Pure
