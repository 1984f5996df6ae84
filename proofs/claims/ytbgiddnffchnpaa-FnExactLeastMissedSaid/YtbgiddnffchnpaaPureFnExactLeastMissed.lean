/- For all numbers the program's LeastMissed answers what the reference's does. -/
import Derived.Test.YtbgiddnffchnpaaQFnExactLeastMissedx2
import Derived.Test.YtbgiddnffchnpaaBase
import Derived.Test.YtbgiddnffchnpaaPoly
namespace Go.Proofs.Ytbgiddnffchnpaa.Pure
open Go.RowKit Go.Proofs.Ytbgiddnffchnpaa.QFnExactLeastMissed Go.Proofs.Ytbgiddnffchnpaa.Base Go.Proofs.YtbgiddnffchnpaaW.PrintWords Go.Proofs.YtbgiddnffchnpaaW.PrintLast Go.Proofs.YtbgiddnffchnpaaW.PrintMore
open Go.Proofs.Ytbgiddnffchnpaa.Poly
set_option linter.unusedVariables false
set_option linter.unusedSimpArgs false

/-! within -/
theorem within_eq (a b c : Int) : impl_within.f a b c = some (decide (b ≤ a ∧ a ≤ c)) := by
  unfold impl_within.f
  by_cases h : b ≤ a
  · simp [h, ge_iff_le]
  · simp [h, ge_iff_le]

/-! l00In -/
theorem l00In_eq (a b c : Int) : spec_l00In.f a b c = some (decide (b ≤ a ∧ a ≤ c)) := by
  unfold spec_l00In.f
  by_cases h : b ≤ a
  · simp [h, ge_iff_le]
  · simp [h, ge_iff_le]

/-! degree -/
theorem IsCheck_eq (p : Int) : impl_IsCheck.f p = some (decide (2 ≤ p ∧ p ≤ 131071)) := by
  unfold impl_IsCheck.f
  rw [within_eq]; rfl
theorem l08Check_eq (p : Int) : spec_l08Check.f p = some (decide (2 ≤ p ∧ p ≤ 131071)) := by
  unfold spec_l08Check.f
  rw [l00In_eq]; rfl
theorem p_lt64 {p : Nat} (h : p ≤ 131071) : p < 2 ^ 64 := Nat.lt_of_le_of_lt h (by decide)
theorem deg16 {p : Nat} (h1 : 2 ≤ p) (h2 : p ≤ 131071) : deg p ≤ 16 := deg_le (by omega) (p_lt64 h2) (Nat.lt_of_le_of_lt h2 (by decide))
theorem pow16 {p : Nat} (h1 : 2 ≤ p) (h2 : p ≤ 131071) : 2 ^ deg p ≤ 65536 := by
  have := Nat.pow_le_pow_right (show 0 < 2 by decide) (deg16 h1 h2)
  simpa using this
theorem degree_eq {p : Nat} (h1 : 2 ≤ p) (h2 : p ≤ 131071) : impl_degree.f (p : Int) = some (deg p : Int) := by
  unfold impl_degree.f bits_Len64.f
  rw [u64_nat (show p < 2 ^ 63 by exact Nat.lt_of_le_of_lt h2 (by decide)), if_pos ⟨by omega, by omega⟩, Option.bind_some, Int.toNat_natCast, bitLen_deg (by omega) (p_lt64 h2)]
  have := deg16 h1 h2
  rw [w64 (by omega) (by omega)]
  congr 1; omega
theorem times_eq {p r : Nat} (h1 : 2 ≤ p) (h2 : p ≤ 131071) (hr : r < 2 ^ deg p) : impl_times.f (p : Int) (r : Int) = some (T p r : Int) := by
  unfold impl_times.f
  have h16 := deg16 h1 h2
  have hp := pow16 h1 h2
  rw [degree_eq h1 h2, Option.bind_some, if_pos (by omega)]
  have e1 : wrap64 ((r : Int) * 2) = ((2 * r : Nat) : Int) := by rw [w64 (by omega) (by omega)]; omega
  rw [e1, shr_nat _ _ (by omega), bits_xor (by omega) (by omega)]
  unfold T
  by_cases h : 2 * r / 2 ^ deg p = 1
  · have h' : ((2 * r / 2 ^ deg p : Nat) : Int) = 1 := by rw [h]; rfl
    rw [if_pos h', if_pos h]
  · have h' : ¬ ((2 * r / 2 ^ deg p : Nat) : Int) = 1 := by omega
    rw [if_neg h', if_neg h]
theorem l08Degree_l0 : ∀ (f X n : Nat), 1 ≤ X → X < 2 ^ f → n + f ≤ 1000 → Ev (fun k => spec_l08Degree.l0 k (X : Int) (n : Int)) ((n + dg f X : Nat) : Int) := by
  intro f
  induction f with
  | zero => intro X n h1 h2; simp at h2; omega
  | succ f ih =>
    intro X n h1 h2 h3
    apply Ev.succ
    unfold dg
    by_cases h : X ≤ 1
    · have h' : ¬ (X : Int) > 1 := by omega
      simp only [spec_l08Degree.l0, h', if_false, h, if_true, Nat.add_zero]; exact Ev.now _
    · have h' : (X : Int) > 1 := by omega
      have hp : 2 ^ (f + 1) = 2 * 2 ^ f := by rw [Nat.pow_succ, Nat.mul_comm]
      have e : (X : Int) / 2 = ((X / 2 : Nat) : Int) := by omega
      have h4 := ih (X / 2) (n + 1) (by omega) (by omega) (by omega)
      have e2 : n + 1 + dg f (X / 2) = n + (dg f (X / 2) + 1) := by omega
      rw [e2] at h4
      simp only [spec_l08Degree.l0, h', if_true, h, if_false, e, w64_succ (show n < 9223372036854775807 by omega)]; exact h4
theorem l08Degree_ev {p : Nat} (h1 : 2 ≤ p) (h2 : p ≤ 131071) : Ev (fun k => spec_l08Degree.f k (p : Int)) (deg p : Int) := by
  have h := l08Degree_l0 64 p 0 (by omega) (p_lt64 h2) (by omega)
  rw [Nat.zero_add] at h
  exact h
theorem l08Next_ev {p r b : Nat} (h1 : 2 ≤ p) (h2 : p ≤ 131071) (hr : r < 2 ^ deg p) (hb : b < 2) : Ev (fun k => spec_l08Next.f k (p : Int) (r : Int) (b : Int)) ((T p r ^^^ b : Nat) : Int) := by
  unfold spec_l08Next.f
  refine Ev.bind (l08Degree_ev h1 h2) ?_
  have h16 := deg16 h1 h2
  have hp := pow16 h1 h2
  have e1 : wrap64 ((r : Int) * 2) = ((2 * r : Nat) : Int) := by rw [w64 (by omega) (by omega)]; omega
  have e2 : IntKind.u64.wrap (deg p : Int) = (deg p : Int) := u64_nat (by omega)
  have e3 : (0 : Int) ≤ (deg p : Int) := by omega
  have hor : 2 * r ||| b < 2 ^ 62 := by rw [dbl_or hb]; omega
  have e4 : Go.bits .or .i64 ((2 * r : Nat) : Int) (b : Int) = ((2 * r ||| b : Nat) : Int) := bits_or (by omega) (by omega)
  have e5 := shr_nat (2 * r ||| b) (deg p) (by omega)
  have e6 : Go.bits .xor .i64 ((2 * r ||| b : Nat) : Int) (p : Int) = (((2 * r ||| b) ^^^ p : Nat) : Int) := bits_xor hor (by omega)
  simp only [e1, e2, e3, if_true, e4, e5, e6]
  have hn := next_T h1 (p_lt64 h2) hr hb
  rw [← hn]
  by_cases h : (2 * r ||| b) / 2 ^ deg p > 0
  · have h' : ((((2 * r ||| b) / 2 ^ deg p : Nat)) : Int) > 0 := by omega
    simp only [h, h', if_true]; exact Ev.now _
  · have h' : ¬ ((((2 * r ||| b) / 2 ^ deg p : Nat)) : Int) > 0 := by omega
    simp only [h, h', if_false]; exact Ev.now _

/-! missed -/
theorem nways_step {l : List Nat} {n c r : Nat} (h : n < l.length) (hc : c ≠ 0) : nways (l.drop n) c r = nways (l.drop (n + 1)) (c - 1) (r ^^^ l[n]) + nways (l.drop (n + 1)) c r := by
  rw [List.drop_eq_getElem_cons h, nways, if_neg hc]
theorem nways_nil {c r : Nat} (hc : c ≠ 0) : nways [] c r = 0 := by
  unfold nways
  rw [if_neg (fun h => hc h.1)]
theorem missed_ev : ∀ (c : Nat) (l : List Nat) (r : Nat), c ≤ 4 → l.length ≤ 32 → (∀ x ∈ l, x < 65536) → r < 65536 → Ev (fun k => impl_missed.f k (castL l) (c : Int) (r : Int)) (nways l c r) := by
  intro c
  induction c with
  | zero =>
    intro l r _ _ _ _
    apply Ev.succ
    rw [nways_zero]
    simp only [impl_missed.f, Int.natCast_zero, if_true]
    by_cases h : r = 0
    · have h' : (r : Int) = 0 := by omega
      simp only [h, h', if_true]; exact Ev.now _
    · have h' : ¬ (r : Int) = 0 := by omega
      simp only [h, h', if_false]; exact Ev.now _
  | succ c ih =>
    intro l r hc hl hx hr
    apply Ev.succ
    have h0 : ¬ ((c + 1 : Nat) : Int) = 0 := by omega
    simp only [impl_missed.f, h0, if_false]
    have key : ∀ (d n : Nat) (s : Int), n + d = l.length → 0 ≤ s → s + nways (l.drop n) (c + 1) r ≤ 4294967296 →
        Ev (fun k => impl_missed.l0 k (castL l) ((c + 1 : Nat) : Int) (r : Int) s ((castL l).length : Int) (n : Int)) (s + nways (l.drop n) (c + 1) r) := by
      intro d
      induction d with
      | zero =>
        intro n s h hs0 hs
        have h1 : ¬ ((n : Int) < ((castL l).length : Int)) := by rw [castL_length]; omega
        have h2 : l.drop n = [] := List.drop_eq_nil_of_le (by omega)
        apply Ev.succ
        rw [h2, nways_nil (by omega), Int.add_zero]
        simp only [impl_missed.l0, h1, if_false]; exact Ev.now _
      | succ d ihd =>
        intro n s h hs0 hs
        have hlt : n < l.length := by omega
        have h1 : (n : Int) < ((castL l).length : Int) := by rw [castL_length]; omega
        have hw := w64_succ (show n < 9223372036854775807 by omega)
        have h2 : (0 : Int) ≤ ((n + 1 : Nat) : Int) := by omega
        have h3 : ((n + 1 : Nat) : Int) ≤ ((castL l).length : Int) := by rw [castL_length]; omega
        have h4 : (0 : Int) ≤ (n : Int) := by omega
        have e1 : wrap64 (((c + 1 : Nat) : Int) - 1) = (c : Int) := by rw [w64 (by omega) (by omega)]; omega
        have hm : l[n] < 65536 := hx _ (List.getElem_mem hlt)
        have e2 : Go.bits .xor .i64 (r : Int) (rd (castL l) (n : Int)) = ((r ^^^ l[n] : Nat) : Int) := by
          rw [rd_castL hlt]; exact bits_xor (by omega) (by omega)
        have hb := nways_bound (l.drop (n + 1)) c (r ^^^ l[n])
        have hb2 := nways_bound (l.drop (n + 1)) (c + 1) r
        have hst := nways_step (r := r) hlt (show c + 1 ≠ 0 by omega)
        rw [Nat.add_sub_cancel] at hst
        have hrec := ih (l.drop (n + 1)) (r ^^^ l[n]) (by omega) (by rw [List.length_drop]; omega) (fun x h => hx x (List.mem_of_mem_drop h)) (Nat.xor_lt_two_pow (n := 16) hr hm)
        have hnext := ihd (n + 1) (s + nways (l.drop (n + 1)) c (r ^^^ l[n])) (by omega) (by omega) (by rw [hst] at hs; omega)
        have e3 : wrap64 (s + nways (l.drop (n + 1)) c (r ^^^ l[n])) = s + nways (l.drop (n + 1)) c (r ^^^ l[n]) := w64 (by omega) (by rw [hst] at hs; omega)
        apply Ev.succ
        simp only [impl_missed.l0, h1, if_true, hw, h2, h3, h4, e1, e2, Int.toNat_natCast, castL_drop]
        refine Ev.bind hrec ?_
        simp only [e3]
        rw [hst, ← Int.add_assoc]
        exact hnext
    have hb := nways_bound l (c + 1) r
    have hp : 2 ^ l.length ≤ 4294967296 := by
      have := Nat.pow_le_pow_right (show 0 < 2 by decide) hl
      simpa using this
    have h := key l.length 0 0 (by omega) (by omega) (by rw [List.drop_zero]; omega)
    rw [Int.zero_add, List.drop_zero] at h
    exact h

/-! CountMissed -/
theorem one_lt {p : Nat} (h1 : 2 ≤ p) (h2 : p ≤ 131071) : 1 < 2 ^ deg p := by
  have := Nat.pow_le_pow_right (show 0 < 2 by decide) (deg_pos h1 (p_lt64 h2))
  simp at this; omega
def cntN (p len c : Nat) : Int := nways (pows p len 1) c 0
theorem cntN_bound (p len c : Nat) (h : len ≤ 32) : 0 ≤ cntN p len c ∧ cntN p len c ≤ 4294967296 := by
  have hb := nways_bound (pows p len 1) c 0
  rw [pows_length] at hb
  have := Nat.pow_le_pow_right (show 0 < 2 by decide) h
  unfold cntN
  simp at this
  omega
theorem pows_snoc (p : Nat) : ∀ (n r : Nat), pows p (n + 1) r = pows p n r ++ [iterT p n r] := by
  intro n
  induction n with
  | zero => intro r; rfl
  | succ n ih =>
    intro r
    rw [pows, ih (T p r)]; rfl
theorem iterT_succ (p : Nat) : ∀ (n r : Nat), iterT p (n + 1) r = T p (iterT p n r) := by
  intro n
  induction n with
  | zero => intro r; rfl
  | succ n ih => intro r; rw [iterT, ih (T p r)]; rfl
theorem iterT_lt {p : Nat} (h1 : 2 ≤ p) (h2 : p < 2 ^ 64) : ∀ (n r : Nat), r < 2 ^ deg p → iterT p n r < 2 ^ deg p := by
  intro n
  induction n with
  | zero => intro r hr; exact hr
  | succ n ih => intro r hr; exact ih _ (T_lt h1 h2 hr)
theorem count_l0 {p : Nat} (h1 : 2 ≤ p) (h2 : p ≤ 131071) (len c : Nat) (hlen : len ≤ 32) (hc : c ≤ 4) : ∀ (d n : Nat), n + d = len →
    Ev (fun k => impl_CountMissed.l0 k (p : Int) (c : Int) (castL (pows p n 1)) ((iterT p n 1 : Nat) : Int) (len : Int) (n : Int)) (cntN p len c, true) := by
  have hp := pow16 h1 h2
  intro d
  induction d with
  | zero =>
    intro n h
    obtain rfl : n = len := by omega
    have c1 : ¬ ((n : Int) < (n : Int)) := by omega
    apply Ev.succ
    simp only [impl_CountMissed.l0, c1, if_false]
    refine Ev.bind (missed_ev c (pows p n 1) 0 hc (by rw [pows_length]; exact hlen) (fun x hx => ?_) (by omega)) (Ev.now _)
    have := pows_lt h1 (p_lt64 h2) n 1 (one_lt h1 h2) x hx
    omega
  | succ d ih =>
    intro n h
    have c1 : (n : Int) < (len : Int) := by omega
    have c2 : (castL (pows p n 1)).length < 17592186044416 := by rw [castL_length, pows_length]; omega
    have h3 := ih (n + 1) (by omega)
    have hw := w64_succ (show n < 9223372036854775807 by omega)
    have hr := iterT_lt h1 (p_lt64 h2) n 1 (one_lt h1 h2)
    have e : castL (pows p (n + 1) 1) = castL (pows p n 1) ++ [((iterT p n 1 : Nat) : Int)] := by rw [pows_snoc]; simp [castL]
    rw [e, iterT_succ] at h3
    apply Ev.succ
    simp only [impl_CountMissed.l0, c1, c2, if_true, times_eq h1 h2 hr, Option.bind_some, hw]
    exact h3
def cntB (p len c : Int) : Bool := decide (2 ≤ p ∧ p ≤ 131071) && decide (1 ≤ len ∧ len ≤ 32) && decide (1 ≤ c ∧ c ≤ 4)
theorem CountMissed_impl (p len c : Int) : Ev (fun k => impl_CountMissed.f k p len c) (if cntB p len c = true then (cntN p.toNat len.toNat c.toNat, true) else (0, false)) := by
  unfold impl_CountMissed.f cntB
  simp only [IsCheck_eq, within_eq, Option.bind_some]
  by_cases c1 : 2 ≤ p ∧ p ≤ 131071
  · by_cases c2 : 1 ≤ len ∧ len ≤ 32
    · by_cases c3 : 1 ≤ c ∧ c ≤ 4
      · simp only [c1, c2, c3, and_self, decide_true, Bool.and_self, if_true, Bool.not_true]
        obtain ⟨P, rfl⟩ := Int.eq_ofNat_of_zero_le (show 0 ≤ p by omega)
        obtain ⟨L, rfl⟩ := Int.eq_ofNat_of_zero_le (show 0 ≤ len by omega)
        obtain ⟨C, rfl⟩ := Int.eq_ofNat_of_zero_le (show 0 ≤ c by omega)
        apply Ev.succ
        simp only [impl_CountMissed.j0, Bool.false_eq_true, if_false, Int.toNat_natCast]
        exact count_l0 (p := P) (by omega) (by omega) L C (by omega) (by omega) L 0 (by omega)
      · simp only [c1, c2, c3, and_self, decide_true, decide_false, Bool.and_false, if_true, Bool.not_false, Bool.false_eq_true, if_false]
        apply Ev.succ
        simp only [impl_CountMissed.j0, if_true]; exact Ev.now _
    · simp only [c1, c2, and_self, decide_true, decide_false, Bool.and_false, Bool.false_and, if_true, Bool.false_eq_true, if_false]
      apply Ev.succ
      simp only [impl_CountMissed.j0, if_true]; exact Ev.now _
  · simp only [c1, decide_false, Bool.false_and, Bool.false_eq_true, if_false]
    apply Ev.succ
    simp only [impl_CountMissed.j0, if_true]; exact Ev.now _

/-! l08Missed -/
theorem l08Missed_ev : ∀ (c : Nat) (l : List Nat) (f r : Nat), c ≤ 4 → l.length ≤ 32 → f ≤ l.length → (∀ x ∈ l, x < 65536) → r < 65536 → Ev (fun k => spec_l08Missed.f k (castL l) (f : Int) (c : Int) (r : Int)) (nways (l.drop f) c r) := by
  intro c
  induction c with
  | zero =>
    intro l f r _ _ _ _ _
    apply Ev.succ
    rw [nways_zero]
    simp only [spec_l08Missed.f, Int.natCast_zero, if_true]
    by_cases h : r = 0
    · have h' : (r : Int) = 0 := by omega
      simp only [h, h', if_true]; exact Ev.now _
    · have h' : ¬ (r : Int) = 0 := by omega
      simp only [h, h', if_false]; exact Ev.now _
  | succ c ih =>
    intro l f r hc hl hf hx hr
    apply Ev.succ
    have h0 : ¬ ((c + 1 : Nat) : Int) = 0 := by omega
    simp only [spec_l08Missed.f, h0, if_false]
    have key : ∀ (d n : Nat) (s : Int), n + d = l.length → 0 ≤ s → s + nways (l.drop n) (c + 1) r ≤ 4294967296 →
        Ev (fun k => spec_l08Missed.l0 k (castL l) ((c + 1 : Nat) : Int) (r : Int) s (n : Int)) (s + nways (l.drop n) (c + 1) r) := by
      intro d
      induction d with
      | zero =>
        intro n s h hs0 hs
        have h1 : ¬ ((n : Int) < ((castL l).length : Int)) := by rw [castL_length]; omega
        have h2 : l.drop n = [] := List.drop_eq_nil_of_le (by omega)
        apply Ev.succ
        rw [h2, nways_nil (by omega), Int.add_zero]
        simp only [spec_l08Missed.l0, h1, if_false]; exact Ev.now _
      | succ d ihd =>
        intro n s h hs0 hs
        have hlt : n < l.length := by omega
        have h1 : (n : Int) < ((castL l).length : Int) := by rw [castL_length]; omega
        have hw := w64_succ (show n < 9223372036854775807 by omega)
        have h4 : (0 : Int) ≤ (n : Int) := by omega
        have e1 : wrap64 (((c + 1 : Nat) : Int) - 1) = (c : Int) := by rw [w64 (by omega) (by omega)]; omega
        have hm : l[n] < 65536 := hx _ (List.getElem_mem hlt)
        have e2 : Go.bits .xor .i64 (r : Int) (rd (castL l) (n : Int)) = ((r ^^^ l[n] : Nat) : Int) := by
          rw [rd_castL hlt]; exact bits_xor (by omega) (by omega)
        have hb := nways_bound (l.drop (n + 1)) c (r ^^^ l[n])
        have hb2 := nways_bound (l.drop (n + 1)) (c + 1) r
        have hst := nways_step (r := r) hlt (show c + 1 ≠ 0 by omega)
        rw [Nat.add_sub_cancel] at hst
        have hrec := ih l (n + 1) (r ^^^ l[n]) (by omega) hl (by omega) hx (Nat.xor_lt_two_pow (n := 16) hr hm)
        have hnext := ihd (n + 1) (s + nways (l.drop (n + 1)) c (r ^^^ l[n])) (by omega) (by omega) (by rw [hst] at hs; omega)
        have e3 : wrap64 (s + nways (l.drop (n + 1)) c (r ^^^ l[n])) = s + nways (l.drop (n + 1)) c (r ^^^ l[n]) := w64 (by omega) (by rw [hst] at hs; omega)
        apply Ev.succ
        simp only [spec_l08Missed.l0, h1, if_true, hw, h4, e1, e2]
        refine Ev.bind hrec ?_
        simp only [e3]
        rw [hst, ← Int.add_assoc]
        exact hnext
    have hb := nways_bound (l.drop f) (c + 1) r
    have hp : 2 ^ (l.drop f).length ≤ 4294967296 := by
      have := Nat.pow_le_pow_right (show 0 < 2 by decide) (show (l.drop f).length ≤ 32 by rw [List.length_drop]; omega)
      simpa using this
    have h := key (l.length - f) f 0 (by omega) (by omega) (by omega)
    rw [Int.zero_add] at h
    exact h

/-! l08Count -/
theorem l08Count_ev {p : Nat} (h1 : 2 ≤ p) (h2 : p ≤ 131071) (len c : Nat) (hlen : len ≤ 32) (hc : c ≤ 4) : Ev (fun k => spec_l08Count.f k (p : Int) (len : Int) (c : Int)) (cntN p len c) := by
  have hp := pow16 h1 h2
  have key : ∀ (d n : Nat), n + d = len → Ev (fun k => spec_l08Count.l0 k (p : Int) (len : Int) (c : Int) (castL (pows p n 1)) ((iterT p n 1 : Nat) : Int) (n : Int)) (cntN p len c) := by
    intro d
    induction d with
    | zero =>
      intro n h
      obtain rfl : n = len := by omega
      have c1 : ¬ ((n : Int) < (n : Int)) := by omega
      apply Ev.succ
      simp only [spec_l08Count.l0, c1, if_false]
      have hm := l08Missed_ev c (pows p n 1) 0 0 hc (by rw [pows_length]; exact hlen) (by omega) (fun x hx => by
        have := pows_lt h1 (p_lt64 h2) n 1 (one_lt h1 h2) x hx
        omega) (by omega)
      rw [List.drop_zero] at hm
      exact Ev.bind hm (Ev.now _)
    | succ d ih =>
      intro n h
      have c1 : (n : Int) < (len : Int) := by omega
      have c2 : (castL (pows p n 1)).length < 17592186044416 := by rw [castL_length, pows_length]; omega
      have h3 := ih (n + 1) (by omega)
      have hw := w64_succ (show n < 9223372036854775807 by omega)
      have hr := iterT_lt h1 (p_lt64 h2) n 1 (one_lt h1 h2)
      have e : castL (pows p (n + 1) 1) = castL (pows p n 1) ++ [((iterT p n 1 : Nat) : Int)] := by rw [pows_snoc]; simp [castL]
      rw [e, iterT_succ] at h3
      apply Ev.succ
      simp only [spec_l08Count.l0, c1, c2, if_true, hw]
      have hx := l08Next_ev (b := 0) h1 h2 hr (by omega)
      rw [Nat.xor_zero] at hx
      exact Ev.bind hx h3
  unfold spec_l08Count.f
  have hx := l08Next_ev (r := 0) (b := 1) h1 h2 (Nat.two_pow_pos _) (by omega)
  rw [T_zero, Nat.zero_xor] at hx
  exact Ev.bind hx (key len 0 (by omega))

theorem LM_both (p len : Int) (h1 : 2 ≤ p) (h2 : p ≤ 131071) (h3 : 1 ≤ len) (h4 : len ≤ 32) : ∀ (d : Nat) (c : Int), 1 ≤ c → c + d = 5 →
    ∃ r, Ev (fun k => spec_LeastMissed.l0 k p len c) r ∧ Ev (fun k => impl_LeastMissed.l0 k p len c) r := by
  intro d
  induction d with
  | zero =>
    intro c hc h
    have c1 : ¬ c ≤ 4 := by omega
    refine ⟨(0, false), Ev.succ ?_, Ev.succ ?_⟩
    · simp only [spec_LeastMissed.l0, c1, if_false]; exact Ev.now _
    · simp only [impl_LeastMissed.l0, c1, if_false]; exact Ev.now _
  | succ d ih =>
    intro c hc h
    have c1 : c ≤ 4 := by omega
    have hb : cntB p len c = true := by unfold cntB; simp; omega
    have hi := CountMissed_impl p len c
    rw [if_pos hb] at hi
    obtain ⟨P, rfl⟩ := Int.eq_ofNat_of_zero_le (show 0 ≤ p by omega)
    obtain ⟨L, rfl⟩ := Int.eq_ofNat_of_zero_le (show 0 ≤ len by omega)
    obtain ⟨C, rfl⟩ := Int.eq_ofNat_of_zero_le (show 0 ≤ c by omega)
    simp only [Int.toNat_natCast] at hi
    have hs := l08Count_ev (p := P) (by omega) (by omega) L C (by omega) (by omega)
    by_cases hp : cntN P L C > 0
    · refine ⟨((C : Int), true), Ev.succ ?_, Ev.succ ?_⟩
      · simp only [spec_LeastMissed.l0, c1, if_true]
        refine Ev.bind hs ?_
        simp only [hp, if_true]; exact Ev.now _
      · simp only [impl_LeastMissed.l0, c1, if_true]
        refine Ev.bind hi ?_
        simp only [hp, if_true]; exact Ev.now _
    · have hw : wrap64 ((C : Int) + 1) = (C : Int) + 1 := w64 (by omega) (by omega)
      obtain ⟨r, r1, r2⟩ := ih ((C : Int) + 1) (by omega) (by omega)
      refine ⟨r, Ev.succ ?_, Ev.succ ?_⟩
      · simp only [spec_LeastMissed.l0, c1, if_true]
        refine Ev.bind hs ?_
        simp only [hp, if_false, hw]; exact r1
      · simp only [impl_LeastMissed.l0, c1, if_true]
        refine Ev.bind hi ?_
        simp only [hp, if_true, if_false, hw]; exact r2
theorem LM_none (p len : Int) (hn : ¬ ((2 ≤ p ∧ p ≤ 131071) ∧ 1 ≤ len ∧ len ≤ 32)) : ∀ (d : Nat) (c : Int), 1 ≤ c → c + d = 5 → Ev (fun k => impl_LeastMissed.l0 k p len c) (0, false) := by
  intro d
  induction d with
  | zero =>
    intro c hc h
    have c1 : ¬ c ≤ 4 := by omega
    apply Ev.succ
    simp only [impl_LeastMissed.l0, c1, if_false]; exact Ev.now _
  | succ d ih =>
    intro c hc h
    have c1 : c ≤ 4 := by omega
    have hb : ¬ cntB p len c = true := by
      unfold cntB
      intro h
      rw [Bool.and_eq_true, Bool.and_eq_true] at h
      exact hn ⟨of_decide_eq_true h.1.1, of_decide_eq_true h.1.2⟩
    have hi := CountMissed_impl p len c
    rw [if_neg hb] at hi
    have hw : wrap64 (c + 1) = c + 1 := w64 (by omega) (by omega)
    apply Ev.succ
    simp only [impl_LeastMissed.l0, c1, if_true]
    refine Ev.bind hi ?_
    simp only [Bool.false_eq_true, if_false, hw]
    exact ih (c + 1) (by omega) (by omega)
theorem LM_ev (p len : Int) : ∃ r, Ev (fun k => spec_LeastMissed.f k p len) r ∧ Ev (fun k => impl_LeastMissed.f k p len) r := by
  unfold spec_LeastMissed.f impl_LeastMissed.f
  simp only [l08Check_eq, l00In_eq, Option.bind_some]
  by_cases c1 : 2 ≤ p ∧ p ≤ 131071
  · by_cases c2 : 1 ≤ len ∧ len ≤ 32
    · obtain ⟨r, r1, r2⟩ := LM_both p len c1.1 c1.2 c2.1 c2.2 4 1 (by omega) (by omega)
      refine ⟨r, ?_, r2⟩
      simp only [c1, c2, and_self, decide_true, if_true, Bool.not_true]
      apply Ev.succ
      simp only [spec_LeastMissed.j0, Bool.false_eq_true, if_false]; exact r1
    · refine ⟨(0, false), ?_, LM_none p len (fun h => c2 h.2) 4 1 (by omega) (by omega)⟩
      simp only [c1, c2, and_self, decide_true, decide_false, if_true, Bool.not_false]
      apply Ev.succ
      simp only [spec_LeastMissed.j0, if_true]; exact Ev.now _
  · refine ⟨(0, false), ?_, LM_none p len (fun h => c1 h.1) 4 1 (by omega) (by omega)⟩
    simp only [c1, decide_false, Bool.false_eq_true, if_false]
    apply Ev.succ
    simp only [spec_LeastMissed.j0, if_true]; exact Ev.now _
theorem FnExactLeastMissed : laws_FnExactLeastMissed.Pure := by
  intro a b ha hb
  refine Ev.rounds ?_
  unfold laws_FnExactLeastMissed.f
  obtain ⟨r, h1, h2⟩ := LM_ev a b
  refine Ev.bind h1 (Ev.bind h2 ?_)
  simp only [if_true, bne_self_eq_false, Bool.false_eq_true, if_false]
  exact Ev.now _

end Go.Proofs.Ytbgiddnffchnpaa.Pure
