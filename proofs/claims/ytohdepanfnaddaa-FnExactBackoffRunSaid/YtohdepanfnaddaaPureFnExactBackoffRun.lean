/- For all lists of counters the program's BackoffRun answers what the reference's does, and hands out memory of its own. -/
import Derived.Test.YtohdepanfnaddaaQFnExactBackoffRunx6
import Derived.Test.YtohdepanfnaddaaBase
namespace Go.Proofs.Ytohdepanfnaddaa.Pure
open Go.RowKit Go.Proofs.Ytohdepanfnaddaa.QFnExactBackoffRun Go.Proofs.Ytohdepanfnaddaa.Base Go.Proofs.YtohdepanfnaddaaW.PrintWords Go.Proofs.YtohdepanfnaddaaW.PrintLast Go.Proofs.YtohdepanfnaddaaW.PrintMore
set_option linter.unusedVariables false
set_option linter.unusedSimpArgs false

/-! within -/
theorem within_eq (a b c : Int) : impl_within.f a b c = some (decide (b ≤ a ∧ a ≤ c)) := by
  unfold impl_within.f
  by_cases h : b ≤ a
  · simp [h, ge_iff_le]
  · simp [h, ge_iff_le]

/-! areIn -/
theorem areIn_l0 (lo hi : Int) (xs : List Int) (hn : xs.length ≤ 1099511627776) : ∀ d n, n + d = xs.length → Ev (fun k => impl_areIn.l0 k lo hi xs (xs.length : Int) (n : Int)) (inAll lo hi (xs.drop n)) := by
  intro d
  induction d with
  | zero =>
    intro n h
    apply Ev.succ
    have h1 : ¬ ((n : Int) < (xs.length : Int)) := by omega
    have h2 : xs.drop n = [] := List.drop_eq_nil_of_le (by omega)
    simp only [impl_areIn.l0, h1, if_false, h2]
    exact Ev.now true
  | succ d ih =>
    intro n h
    apply Ev.succ
    have h1 : (n : Int) < (xs.length : Int) := by omega
    have h2 : (0 : Int) ≤ (n : Int) := by omega
    have h3 := ih (n + 1) (by omega)
    rw [drop_rd (show n < xs.length by omega), inAll_cons]
    simp only [impl_areIn.l0, h1, h2, if_true, within_eq, Option.bind_some, w64_succ (show n < 9223372036854775807 by omega)]
    by_cases hc : lo ≤ rd xs (n : Int) ∧ rd xs (n : Int) ≤ hi
    · simp only [hc, decide_true, if_true, Bool.true_and, and_self]; exact h3
    · simp only [hc, decide_false, Bool.false_and, Bool.false_eq_true, if_false]; exact Ev.now false
theorem areIn_ev (lo hi : Int) (xs : List Int) (hn : xs.length ≤ 1099511627776) : Ev (fun k => impl_areIn.f k xs lo hi) (inAll lo hi xs) := by
  have h := areIn_l0 lo hi xs hn xs.length 0 (by omega)
  exact h

/-! rdset -/
theorem rd_set_same {xs : List Int} {s v : Int} (h0 : 0 ≤ s) (h : s < (xs.length : Int)) : rd (xs.set s.toNat v) s = v := by
  unfold rd
  rw [List.getD_eq_getElem?_getD, List.getElem?_set_self (by omega)]; rfl
theorem rd_set_ne {xs : List Int} {s t v : Int} (h0 : 0 ≤ s) (h1 : 0 ≤ t) (h : s ≠ t) : rd (xs.set s.toNat v) t = rd xs t := by
  unfold rd
  rw [List.getD_eq_getElem?_getD, List.getD_eq_getElem?_getD, List.getElem?_set_ne (by omega)]

/-! sumL -/
def sumL : List Int → Int
  | [] => 0
  | x :: r => x + sumL r
theorem rd_zero (x : Int) (r : List Int) : rd (x :: r) ((0 : Nat) : Int) = x := rfl
theorem rd_succ (x : Int) (r : List Int) (i : Nat) : rd (x :: r) ((i + 1 : Nat) : Int) = rd r (i : Int) := by
  rw [rd_nat, rd_nat]; rfl
theorem sumL_set (l : List Int) : ∀ (i : Nat) (v : Int), i < l.length → sumL (l.set i v) = sumL l - rd l (i : Int) + v := by
  induction l with
  | nil => intro i v h; exact absurd h (by simp)
  | cons x l ih =>
    intro i v h
    cases i with
    | zero => rw [rd_zero]; simp only [List.set_cons_zero, sumL]; omega
    | succ i =>
      have h2 := ih i v (by simpa using h)
      rw [rd_succ]
      simp only [List.set_cons_succ, sumL]; omega
theorem sumL_nonneg (l : List Int) : (∀ x ∈ l, 0 ≤ x) → 0 ≤ sumL l := by
  induction l with
  | nil => intro _; exact Int.le_refl _
  | cons x l ih =>
    intro h
    have h1 := h x List.mem_cons_self
    have h2 := ih (fun y hy => h y (List.mem_cons_of_mem _ hy))
    simp only [sumL]; omega
theorem sumL_ge (l : List Int) : (∀ x ∈ l, 0 ≤ x) → ∀ x ∈ l, x ≤ sumL l := by
  induction l with
  | nil => intro _ x hx; exact absurd hx (by simp)
  | cons y l ih =>
    intro h x hx
    have h1 := h y List.mem_cons_self
    have h3 := fun z hz => h z (List.mem_cons_of_mem _ hz)
    have h2 := sumL_nonneg l h3
    simp only [sumL]
    rcases List.mem_cons.1 hx with rfl | hx
    · omega
    · have := ih h3 x hx; omega
theorem sumL_le (l : List Int) (b : Int) : (∀ x ∈ l, x ≤ b) → sumL l ≤ b * (l.length : Int) := by
  induction l with
  | nil => intro _; simp [sumL]
  | cons y l ih =>
    intro h
    have h1 := h y List.mem_cons_self
    have h2 := ih (fun z hz => h z (List.mem_cons_of_mem _ hz))
    have e : b * ((y :: l).length : Int) = b * (l.length : Int) + b := by
      rw [List.length_cons, show ((l.length + 1 : Nat) : Int) = (l.length : Int) + 1 by omega, Int.mul_add, Int.mul_one]
    rw [e]
    simp only [sumL]; omega
theorem rd_setn (l : List Int) (i j : Nat) (v : Int) (hi : i < l.length) : rd (l.set i v) (j : Int) = if i = j then v else rd l (j : Int) := by
  by_cases h : i = j
  · subst h
    rw [if_pos rfl]
    have := rd_set_same (xs := l) (s := (i : Int)) (v := v) (by omega) (by omega)
    rwa [Int.toNat_natCast] at this
  · rw [if_neg h]
    have := rd_set_ne (xs := l) (s := (i : Int)) (t := (j : Int)) (v := v) (by omega) (by omega) (by omega)
    rwa [Int.toNat_natCast] at this
theorem mem_rd {l : List Int} {x : Int} (h : x ∈ l) : ∃ j : Nat, j < l.length ∧ rd l (j : Int) = x := by
  obtain ⟨j, hj, e⟩ := List.getElem_of_mem h
  exact ⟨j, hj, by rw [rd_get hj, e]⟩
theorem all_rd {l : List Int} {P : Int → Prop} (h : ∀ j : Nat, j < l.length → P (rd l (j : Int))) : ∀ x ∈ l, P x := by
  intro x hx
  obtain ⟨j, hj, e⟩ := mem_rd hx
  rw [← e]; exact h j hj

/-! BackoffI -/
/-- The stations whose counter is 0, among the first ones. -/
def bkZ (now : List Int) (i : Nat) : List Nat := (List.range i).filter fun j => decide (rd now (j : Int) = 0)
theorem bkZ_succ (now : List Int) (i : Nat) : bkZ now (i + 1) = if rd now (i : Int) = 0 then bkZ now i ++ [i] else bkZ now i := by
  unfold bkZ
  rw [List.range_succ, List.filter_append]
  by_cases h : rd now (i : Int) = 0
  · simp [h]
  · simp [h]
theorem bkZ_mem {now : List Int} {N i : Nat} (h : i ∈ bkZ now N) : i < N ∧ rd now (i : Int) = 0 := by
  unfold bkZ at h
  simp only [List.mem_filter, List.mem_range, decide_eq_true_eq] at h
  exact h
theorem bkZ_nodup (now : List Int) (N : Nat) : (bkZ now N).Nodup := List.nodup_range.sublist List.filter_sublist
theorem bkZ_len (now : List Int) (N : Nat) : (bkZ now N).length ≤ N := by
  have := List.length_filter_le (fun j : Nat => decide (rd now (j : Int) = 0)) (List.range N)
  rw [List.length_range] at this
  exact this
def natL (xs : List Nat) : List Int := xs.map fun j : Nat => (j : Int)
theorem natL_length (xs : List Nat) : (natL xs).length = xs.length := by unfold natL; rw [List.length_map]
theorem natL_rd {xs : List Nat} {n : Nat} (h : n < xs.length) : rd (natL xs) (n : Int) = (xs[n] : Int) := by
  rw [rd_get (by rw [natL_length]; exact h)]
  simp [natL]
/-- One slot without a sender. -/
def bkDec (x : Int) : Int := if x > 0 then x - 1 else x
/-- One sender of several. -/
def bkMv (cs : List (List Int)) (s : List Int × List Int × Int) (i : Nat) : List Int × List Int × Int :=
  if rd s.2.1 (i : Int) + 1 = ((rd_L1 cs (i : Int)).length : Int) then (s.1.set i (-1), s.2.1.set i (rd s.2.1 (i : Int) + 1), s.2.2 - 1)
  else (s.1.set i (rd (rd_L1 cs (i : Int)) (rd s.2.1 (i : Int) + 1)), s.2.1.set i (rd s.2.1 (i : Int) + 1), s.2.2)
/-- One slot: counters, places in the lists, answers, how many take part. -/
def bkStep (cs : List (List Int)) (now next done : List Int) (act t : Int) : List Int × List Int × List Int × Int :=
  match bkZ now cs.length with
  | [] => (now.map bkDec, next, done, act)
  | [i] => (now.set i (-1), next.set i (rd next (i : Int) + 1), done.set i t, act - 1)
  | i :: j :: zs => ((List.foldl (bkMv cs) (now, next, act) (i :: j :: zs)).1, (List.foldl (bkMv cs) (now, next, act) (i :: j :: zs)).2.1, done, (List.foldl (bkMv cs) (now, next, act) (i :: j :: zs)).2.2)
def bkRun (cs : List (List Int)) : Nat → List Int → List Int → List Int → Int → List Int → List Int × List Int
  | 0, _, _, done, _, slots => (slots, done)
  | f + 1, now, next, done, act, slots =>
    if act > 0 then bkRun cs f (bkStep cs now next done act (slots.length : Int)).1 (bkStep cs now next done act (slots.length : Int)).2.1 (bkStep cs now next done act (slots.length : Int)).2.2.1 (bkStep cs now next done act (slots.length : Int)).2.2.2 (slots ++ [((bkZ now cs.length).length : Int)])
    else (slots, done)
/-- Lists of counters that are taken. -/
structure CsOK (cs : List (List Int)) : Prop where
  n1 : 1 ≤ cs.length
  n2 : cs.length ≤ 12
  l1 : ∀ j : Nat, j < cs.length → 1 ≤ (rd_L1 cs (j : Int)).length ∧ (rd_L1 cs (j : Int)).length ≤ 40
  hv : ∀ j : Nat, j < cs.length → inAll 0 20 (rd_L1 cs (j : Int)) = true
structure BkI (cs : List (List Int)) (now next : List Int) : Prop where
  ln : now.length = cs.length
  lx : next.length = cs.length
  hn : ∀ j : Nat, j < cs.length → -1 ≤ rd now (j : Int) ∧ rd now (j : Int) ≤ 20
  hx : ∀ j : Nat, j < cs.length → 0 ≤ rd now (j : Int) → 0 ≤ rd next (j : Int) ∧ rd next (j : Int) < ((rd_L1 cs (j : Int)).length : Int)
theorem bkMv_inv {cs : List (List Int)} (hc : CsOK cs) {s : List Int × List Int × Int} (H : BkI cs s.1 s.2.1) {i : Nat} (hi : i < cs.length) (h0 : rd s.1 (i : Int) = 0) :
    BkI cs (bkMv cs s i).1 (bkMv cs s i).2.1 ∧ (∀ j : Nat, j ≠ i → rd (bkMv cs s i).1 (j : Int) = rd s.1 (j : Int)) ∧ s.2.2 - 1 ≤ (bkMv cs s i).2.2 ∧ (bkMv cs s i).2.2 ≤ s.2.2 := by
  obtain ⟨now, next, act⟩ := s
  simp only at H h0 ⊢
  have hx := H.hx i hi (by omega)
  have hin : i < now.length := by rw [H.ln]; exact hi
  have hix : i < next.length := by rw [H.lx]; exact hi
  unfold bkMv
  simp only
  split
  · refine ⟨⟨by rw [List.length_set]; exact H.ln, by rw [List.length_set]; exact H.lx, fun j hj => ?_, fun j hj h => ?_⟩, fun j hj => ?_, by dsimp only; omega, by dsimp only; omega⟩
    · rw [rd_setn _ _ _ _ hin]
      split
      · omega
      · exact H.hn j hj
    · rw [rd_setn _ _ _ _ hin] at h
      split at h
      · omega
      · rename_i hne
        rw [rd_setn _ _ _ _ hix, if_neg hne]
        exact H.hx j hj h
    · rw [rd_setn _ _ _ _ hin, if_neg (fun e => hj e.symm)]
  · rename_i hne
    obtain ⟨m, hm⟩ := Int.eq_ofNat_of_zero_le (show 0 ≤ rd next (i : Int) + 1 by omega)
    have hb := inAll_mem (hc.hv i hi) _ (rd_mem (xs := rd_L1 cs (i : Int)) (n := m) (by omega))
    rw [hm] at hne ⊢
    refine ⟨⟨by rw [List.length_set]; exact H.ln, by rw [List.length_set]; exact H.lx, fun j hj => ?_, fun j hj h => ?_⟩, fun j hj => ?_, by dsimp only; omega, by dsimp only; omega⟩
    · rw [rd_setn _ _ _ _ hin]
      split
      · omega
      · exact H.hn j hj
    · rw [rd_setn _ _ _ _ hin] at h
      rw [rd_setn _ _ _ _ hix]
      split at h
      · rename_i e
        subst e
        rw [if_pos rfl]
        omega
      · rename_i hne
        rw [if_neg hne]
        exact H.hx j hj h
    · rw [rd_setn _ _ _ _ hin, if_neg (fun e => hj e.symm)]
theorem bkFold_inv {cs : List (List Int)} (hc : CsOK cs) : ∀ (zs : List Nat) (s : List Int × List Int × Int), BkI cs s.1 s.2.1 → zs.Nodup → (∀ i ∈ zs, i < cs.length ∧ rd s.1 (i : Int) = 0) →
    BkI cs (zs.foldl (bkMv cs) s).1 (zs.foldl (bkMv cs) s).2.1 ∧ (∀ j : Nat, j ∉ zs → rd (zs.foldl (bkMv cs) s).1 (j : Int) = rd s.1 (j : Int)) ∧ s.2.2 - (zs.length : Int) ≤ (zs.foldl (bkMv cs) s).2.2 ∧ (zs.foldl (bkMv cs) s).2.2 ≤ s.2.2 := by
  intro zs
  induction zs with
  | nil => intro s H _ _; exact ⟨H, fun _ _ => rfl, by simp, Int.le_refl _⟩
  | cons z zs ih =>
    intro s H hd h
    obtain ⟨h1, h2⟩ := h z List.mem_cons_self
    obtain ⟨a1, a2, a3, a4⟩ := bkMv_inv hc H h1 h2
    obtain ⟨hz, hd2⟩ := List.nodup_cons.1 hd
    obtain ⟨b1, b2, b3, b4⟩ := ih (bkMv cs s z) a1 hd2 (fun i hi => ⟨(h i (List.mem_cons_of_mem _ hi)).1, by rw [a2 i (fun e => hz (e ▸ hi))]; exact (h i (List.mem_cons_of_mem _ hi)).2⟩)
    rw [List.foldl_cons]
    refine ⟨b1, fun j hj => ?_, ?_, by omega⟩
    · rw [b2 j (fun h' => hj (List.mem_cons_of_mem _ h')), a2 j (fun e => hj (e ▸ List.mem_cons_self))]
    · rw [List.length_cons]; omega
theorem rd_map_dec (now : List Int) (j : Nat) : rd (now.map bkDec) (j : Int) = bkDec (rd now (j : Int)) := by
  rw [rd_nat, rd_nat, List.getD_eq_getElem?_getD, List.getD_eq_getElem?_getD, List.getElem?_map]
  cases now[j]? <;> rfl
/-- What a slot leaves. -/
theorem bkStep_inv {cs : List (List Int)} (hc : CsOK cs) {now next done : List Int} {act t : Int} (H : BkI cs now next) :
    BkI cs (bkStep cs now next done act t).1 (bkStep cs now next done act t).2.1 ∧ (∀ j : Nat, j < cs.length → 0 ≤ rd (bkStep cs now next done act t).1 (j : Int) → 0 ≤ rd now (j : Int)) ∧
      act - 12 ≤ (bkStep cs now next done act t).2.2.2 ∧ (bkStep cs now next done act t).2.2.2 ≤ act ∧ (bkStep cs now next done act t).2.2.1.length = done.length := by
  have hm : ∀ i ∈ bkZ now cs.length, i < cs.length ∧ rd now (i : Int) = 0 := fun i h => bkZ_mem h
  have hd := bkZ_nodup now cs.length
  have hl := bkZ_len now cs.length
  have h12 := hc.n2
  unfold bkStep
  generalize bkZ now cs.length = zs at hm hd hl ⊢
  match zs, hm, hd, hl with
  | [], hm, hd, hl =>
    simp only
    refine ⟨⟨by rw [List.length_map]; exact H.ln, H.lx, fun j hj => ?_, fun j hj h => ?_⟩, fun j hj h => ?_, by omega, Int.le_refl _, by first | trivial | rfl⟩
    · rw [rd_map_dec]
      have := H.hn j hj
      unfold bkDec
      split <;> omega
    · rw [rd_map_dec] at h
      exact H.hx j hj (by unfold bkDec at h; split at h <;> omega)
    · rw [rd_map_dec] at h
      unfold bkDec at h; split at h <;> omega
  | [i], hm, hd, hl =>
    obtain ⟨h1, h2⟩ := hm i List.mem_cons_self
    have hin : i < now.length := by rw [H.ln]; exact h1
    have hix : i < next.length := by rw [H.lx]; exact h1
    simp only
    refine ⟨⟨by rw [List.length_set]; exact H.ln, by rw [List.length_set]; exact H.lx, fun j hj => ?_, fun j hj h => ?_⟩, fun j hj h => ?_, by omega, by omega, by rw [List.length_set]⟩
    · rw [rd_setn _ _ _ _ hin]
      split
      · omega
      · exact H.hn j hj
    · rw [rd_setn _ _ _ _ hin] at h
      split at h
      · omega
      · rename_i hne
        rw [rd_setn _ _ _ _ hix, if_neg hne]
        exact H.hx j hj h
    · rw [rd_setn _ _ _ _ hin] at h
      split at h
      · omega
      · exact h
  | i :: i2 :: zs, hm, hd, hl =>
    obtain ⟨b1, b2, b3, b4⟩ := bkFold_inv hc (i :: i2 :: zs) (now, next, act) H hd hm
    simp only at b1 b2 b3 b4 ⊢
    refine ⟨b1, fun j hj h => ?_, by omega, b4, by first | trivial | rfl⟩
    by_cases hz : j ∈ i :: i2 :: zs
    · rw [(hm j hz).2]; exact Int.le_refl _
    · rw [b2 j hz] at h; exact h
abbrev BkR := List Int × List Int × Bool
/-- Who sends in a slot. -/
theorem bk_l2 {cs : List (List Int)} {now next done slots : List Int} {act : Int} {r : BkR} (hN : now.length ≤ 12) (h : Ev (fun k => impl_BackoffRun.l3 k cs now next act slots done (natL (bkZ now now.length)) (now.length : Int) 0) r) :
    ∀ d i, i + d = now.length → Ev (fun k => impl_BackoffRun.l2 k cs now next act slots done (natL (bkZ now i)) (now.length : Int) (i : Int)) r := by
  intro d
  induction d with
  | zero =>
    intro i hi
    obtain rfl : i = now.length := by omega
    apply Ev.succ
    simp only [impl_BackoffRun.l2]
    exact Ev.cond (fun h' => absurd h' (Int.lt_irrefl _)) (fun _ => h)
  | succ d ih =>
    intro i hi
    have h3 := ih (i + 1) (by omega)
    have c1 : (i : Int) < (now.length : Int) := by omega
    have c2 : (0 : Int) ≤ (i : Int) := by omega
    have hz := bkZ_len now i
    have c4 : (natL (bkZ now i)).length < 17592186044416 := by rw [natL_length]; omega
    rw [bkZ_succ] at h3
    apply Ev.succ
    simp only [impl_BackoffRun.l2, w64_succ (show i < 9223372036854775807 by omega)]
    refine Ev.cond (fun _ => ?_) (fun h' => absurd c1 h')
    refine Ev.cond (fun _ => ?_) (fun h' => absurd c2 h')
    refine Ev.cond (fun _ => ?_) (fun h' => absurd c1 h')
    by_cases h0 : rd now (i : Int) = 0
    · rw [if_pos h0] at h3
      have e : natL (bkZ now i ++ [i]) = natL (bkZ now i) ++ [(i : Int)] := by simp [natL]
      rw [e] at h3
      refine Ev.cond (fun _ => ?_) (fun h' => absurd h0 h')
      exact Ev.cond (fun _ => h3) (fun h' => absurd c4 h')
    · rw [if_neg h0] at h3
      exact Ev.cond (fun h' => absurd h' h0) (fun _ => h3)
/-- A slot in which nobody sends. -/
theorem bk_l3_none {cs : List (List Int)} {now next done slots : List Int} {act : Int} {r : BkR} (hN : now.length ≤ 12) (hb : ∀ j : Nat, j < now.length → -1 ≤ rd now (j : Int) ∧ rd now (j : Int) ≤ 20)
    (h : Ev (fun k => impl_BackoffRun.l4 k cs (now.map bkDec) next act slots done [] 0 0) r) :
    ∀ d i, i + d = now.length → Ev (fun k => impl_BackoffRun.l3 k cs ((now.take i).map bkDec ++ now.drop i) next act slots done [] (now.length : Int) (i : Int)) r := by
  intro d
  induction d with
  | zero =>
    intro i hi
    obtain rfl : i = now.length := by omega
    rw [List.take_length, List.drop_length, List.append_nil]
    apply Ev.succ
    simp only [impl_BackoffRun.l3]
    exact Ev.cond (fun h' => absurd h' (Int.lt_irrefl _)) (fun _ => h)
  | succ d ih =>
    intro i hi
    have hi' : i < now.length := by omega
    have h3 := ih (i + 1) (by omega)
    have c1 : (i : Int) < (now.length : Int) := by omega
    have c2 : (0 : Int) ≤ (i : Int) := by omega
    have hlt : ((now.take i).map bkDec).length = i := by rw [List.length_map, List.length_take]; omega
    have c3 : (i : Int) < (((now.take i).map bkDec ++ now.drop i).length : Int) := by
      rw [List.length_append, hlt, List.length_drop]; omega
    have hrd : rd ((now.take i).map bkDec ++ now.drop i) (i : Int) = rd now (i : Int) := by
      rw [rd_nat, rd_nat, List.getD_eq_getElem?_getD, List.getD_eq_getElem?_getD, List.getElem?_append_right (by omega), hlt, Nat.sub_self, List.getElem?_drop, Nat.add_zero]
    have hbi := hb i hi'
    rw [take_rd hi', List.map_append, List.append_assoc] at h3
    simp only [List.map_cons, List.map_nil, List.singleton_append] at h3
    apply Ev.succ
    simp only [impl_BackoffRun.l3, w64_succ (show i < 9223372036854775807 by omega), hrd, Int.toNat_natCast]
    refine Ev.cond (fun _ => ?_) (fun h' => absurd c1 h')
    refine Ev.cond (fun _ => ?_) (fun h' => absurd c2 h')
    refine Ev.cond (fun _ => ?_) (fun h' => absurd c3 h')
    refine Ev.cond (fun _ => ?_) (fun h' => absurd rfl h')
    by_cases hp : rd now (i : Int) > 0
    · have e : wrap64 (rd now (i : Int) - 1) = bkDec (rd now (i : Int)) := by
        unfold bkDec
        rw [if_pos hp]
        exact w64 (by omega) (by omega)
      refine Ev.cond (fun _ => ?_) (fun h' => absurd hp h')
      rw [e, drop_rd hi', set_mid _ _ _ _ _ hlt]
      exact h3
    · have e : bkDec (rd now (i : Int)) = rd now (i : Int) := by
        unfold bkDec
        rw [if_neg hp]
      rw [e] at h3
      refine Ev.cond (fun h' => absurd h' hp) (fun _ => ?_)
      rw [drop_rd hi']
      exact h3
theorem bk_l3_some {cs : List (List Int)} {now next done slots own : List Int} {act : Int} {r : BkR} (hN : now.length ≤ 12) (ho : ¬ (own.length : Int) = 0)
    (h : Ev (fun k => impl_BackoffRun.l4 k cs now next act slots done own (own.length : Int) 0) r) :
    ∀ d i, i + d = now.length → Ev (fun k => impl_BackoffRun.l3 k cs now next act slots done own (now.length : Int) (i : Int)) r := by
  intro d
  induction d with
  | zero =>
    intro i hi
    obtain rfl : i = now.length := by omega
    apply Ev.succ
    simp only [impl_BackoffRun.l3]
    exact Ev.cond (fun h' => absurd h' (Int.lt_irrefl _)) (fun _ => h)
  | succ d ih =>
    intro i hi
    have h3 := ih (i + 1) (by omega)
    have c1 : (i : Int) < (now.length : Int) := by omega
    have c2 : (0 : Int) ≤ (i : Int) := by omega
    apply Ev.succ
    simp only [impl_BackoffRun.l3, w64_succ (show i < 9223372036854775807 by omega)]
    refine Ev.cond (fun _ => ?_) (fun h' => absurd c1 h')
    refine Ev.cond (fun _ => ?_) (fun h' => absurd c2 h')
    refine Ev.cond (fun _ => ?_) (fun h' => absurd c1 h')
    exact Ev.cond (fun h' => absurd h' ho) (fun _ => h3)
/-- The end of a slot. -/
theorem bk_l4_end {cs : List (List Int)} {now next done slots own : List Int} {act : Int} {r : BkR} (hs : slots.length ≤ 300)
    (h : Ev (fun k => impl_BackoffRun.l1 k cs now act (slots ++ [(own.length : Int)]) next done) r) (n : Int) : Ev (fun k => impl_BackoffRun.l4 k cs now next act slots done own n n) r := by
  have c : slots.length < 17592186044416 := by omega
  apply Ev.succ
  simp only [impl_BackoffRun.l4]
  refine Ev.cond (fun h' => absurd h' (Int.lt_irrefl _)) (fun _ => ?_)
  exact Ev.cond (fun _ => h) (fun h' => absurd c h')
/-- A slot in which one sends. -/
theorem bk_l4_one {cs : List (List Int)} (hc : CsOK cs) {now next done slots : List Int} {act : Int} {r : BkR} (hs : slots.length ≤ 300) (ha : -100000 ≤ act ∧ act ≤ 100000) (H : BkI cs now next) (hd : done.length = cs.length) {i : Nat} (hi : i < cs.length) (h0 : rd now (i : Int) = 0)
    (h : Ev (fun k => impl_BackoffRun.l1 k cs (now.set i (-1)) (act - 1) (slots ++ [1]) (next.set i (rd next (i : Int) + 1)) (done.set i (slots.length : Int))) r) :
    Ev (fun k => impl_BackoffRun.l4 k cs now next act slots done (natL [i]) (1 : Int) 0) r := by
  have hx := H.hx i hi (by omega)
  have hl := hc.l1 i hi
  have c3 : (0 : Int) ≤ (i : Int) := by omega
  have c4 : (i : Int) < (next.length : Int) := by rw [H.lx]; omega
  have c5 : (i : Int) < (done.length : Int) := by rw [hd]; omega
  have c6 : (i : Int) < (now.length : Int) := by rw [H.ln]; omega
  have e1 : wrap64 (rd next (i : Int) + 1) = rd next (i : Int) + 1 := w64 (by omega) (by omega)
  have e2 : wrap64 (act - 1) = act - 1 := w64 (by omega) (by omega)
  have e3 : rd (natL [i]) 0 = (i : Int) := rfl
  have e4 : ((natL [i]).length : Int) = 1 := rfl
  have e5 : wrap64 (0 + 1) = 1 := by rw [w64 (by omega) (by omega)]; rfl
  have hfin := bk_l4_end (own := natL [i]) hs (by rw [e4]; exact h) 1
  apply Ev.succ
  simp only [impl_BackoffRun.l4, e1, e2, e3, e4, e5, Option.bind_some, Int.toNat_natCast]
  refine Ev.cond (fun _ => ?_) (fun h' => absurd (by decide) h')
  refine Ev.cond (fun _ => ?_) (fun h' => absurd (by decide) h')
  refine Ev.cond (fun _ => ?_) (fun h' => absurd (by decide) h')
  refine Ev.cond (fun _ => ?_) (fun h' => absurd c3 h')
  refine Ev.cond (fun _ => ?_) (fun h' => absurd c4 h')
  refine Ev.cond (fun _ => ?_) (fun h' => absurd trivial h')
  refine Ev.cond (fun _ => ?_) (fun h' => absurd c5 h')
  exact Ev.cond (fun _ => hfin) (fun h' => absurd c6 h')
/-- A slot in which several send. -/
theorem bk_l4_more {cs : List (List Int)} (hc : CsOK cs) {done slots : List Int} {zs0 : List Nat} {r : BkR} (hs : slots.length ≤ 300) (h12 : zs0.length ≤ 12) (hne : ¬ ((natL zs0).length : Int) = 1) (hnd : zs0.Nodup) {s0 : List Int × List Int × Int}
    (h : Ev (fun k => impl_BackoffRun.l1 k cs (zs0.foldl (bkMv cs) s0).1 (zs0.foldl (bkMv cs) s0).2.2 (slots ++ [((natL zs0).length : Int)]) (zs0.foldl (bkMv cs) s0).2.1 done) r) :
    ∀ (d n : Nat) (s : List Int × List Int × Int), n + d = zs0.length → (zs0.drop n).foldl (bkMv cs) s = zs0.foldl (bkMv cs) s0 → BkI cs s.1 s.2.1 → (∀ i ∈ zs0.drop n, i < cs.length ∧ rd s.1 (i : Int) = 0) → -100000 ≤ s.2.2 - (d : Int) ∧ s.2.2 ≤ 100000 →
      Ev (fun k => impl_BackoffRun.l4 k cs s.1 s.2.1 s.2.2 slots done (natL zs0) ((natL zs0).length : Int) (n : Int)) r := by
  intro d
  induction d with
  | zero =>
    intro n s hn he H hz ha
    rw [List.drop_eq_nil_of_le (by omega)] at he
    rw [List.foldl_nil] at he
    rw [← he] at h
    have e : ((natL zs0).length : Int) = (n : Int) := by rw [natL_length]; omega
    have hfin := bk_l4_end (own := natL zs0) (cs := cs) (now := s.1) (next := s.2.1) (done := done) (act := s.2.2) hs h (n : Int)
    rw [e]
    exact hfin
  | succ d ih =>
    intro n s hn he H hz ha
    have hn' : n < zs0.length := by omega
    have hcons : zs0.drop n = zs0[n] :: zs0.drop (n + 1) := List.drop_eq_getElem_cons hn'
    rw [hcons] at he hz
    rw [List.foldl_cons] at he
    obtain ⟨hi, h0⟩ := hz zs0[n] List.mem_cons_self
    obtain ⟨a1, a2, a3, a4⟩ := bkMv_inv hc H hi h0
    have hndn : (zs0.drop n).Nodup := hnd.sublist (List.drop_sublist n zs0)
    rw [hcons] at hndn
    have hnn := (List.nodup_cons.1 hndn).1
    have h3 := ih (n + 1) (bkMv cs s zs0[n]) (by omega) he a1 (fun i hi => ⟨(hz i (List.mem_cons_of_mem _ hi)).1, by rw [a2 i (fun e => hnn (e ▸ hi))]; exact (hz i (List.mem_cons_of_mem _ hi)).2⟩) (by omega)
    have hrd := natL_rd hn'
    have hlen := natL_length zs0
    generalize zs0[n] = i at *
    have hx := H.hx i hi (by omega)
    have hl := hc.l1 i hi
    have hix : i < s.2.1.length := by rw [H.lx]; exact hi
    have c1 : (n : Int) < ((natL zs0).length : Int) := by omega
    have c2 : (0 : Int) ≤ (n : Int) := by omega
    have c3 : (0 : Int) ≤ (i : Int) := by omega
    have c4 : (i : Int) < (s.2.1.length : Int) := by omega
    have c5 : (i : Int) < (cs.length : Int) := by omega
    have c6 : (i : Int) < (s.1.length : Int) := by rw [H.ln]; omega
    have e1 : wrap64 (rd s.2.1 (i : Int) + 1) = rd s.2.1 (i : Int) + 1 := w64 (by omega) (by omega)
    have e2 : wrap64 (s.2.2 - 1) = s.2.2 - 1 := w64 (by omega) (by omega)
    have e3 : rd (s.2.1.set i (rd s.2.1 (i : Int) + 1)) (i : Int) = rd s.2.1 (i : Int) + 1 := by rw [rd_setn _ _ _ _ hix, if_pos rfl]
    apply Ev.succ
    simp only [impl_BackoffRun.l4, hrd, e1, e2, Option.bind_some, Int.toNat_natCast, e3, w64_succ (show n < 9223372036854775807 by omega)]
    refine Ev.cond (fun _ => ?_) (fun h' => absurd c1 h')
    refine Ev.cond (fun _ => ?_) (fun h' => absurd c2 h')
    refine Ev.cond (fun _ => ?_) (fun h' => absurd c1 h')
    refine Ev.cond (fun _ => ?_) (fun h' => absurd c3 h')
    refine Ev.cond (fun _ => ?_) (fun h' => absurd c4 h')
    refine Ev.cond (fun h' => absurd h' hne) (fun _ => ?_)
    refine Ev.cond (fun _ => ?_) (fun h' => absurd c5 h')
    unfold bkMv at h3
    by_cases hq : rd s.2.1 (i : Int) + 1 = ((rd_L1 cs (i : Int)).length : Int)
    · rw [if_pos hq] at h3
      refine Ev.cond (fun _ => ?_) (fun h' => absurd hq h')
      exact Ev.cond (fun _ => h3) (fun h' => absurd c6 h')
    · rw [if_neg hq] at h3
      refine Ev.cond (fun h' => absurd h' hq) (fun _ => ?_)
      refine Ev.cond (fun _ => ?_) (fun h' => absurd (show 0 ≤ rd s.2.1 (i : Int) + 1 by omega) h')
      refine Ev.cond (fun _ => ?_) (fun h' => absurd (show rd s.2.1 (i : Int) + 1 < ((rd_L1 cs (i : Int)).length : Int) by omega) h')
      exact Ev.cond (fun _ => h3) (fun h' => absurd c6 h')
/-- All slots. -/
theorem bk_l1 {cs : List (List Int)} (hc : CsOK cs) : ∀ (f : Nat) (now next done : List Int) (act : Int) (slots : List Int), slots.length + f = 300 → BkI cs now next → done.length = cs.length → -12 * (slots.length : Int) ≤ act ∧ act ≤ 12 →
    Ev (fun k => impl_BackoffRun.l1 k cs now act slots next done) ((bkRun cs f now next done act slots).1, (bkRun cs f now next done act slots).2, true) := by
  have stop : ∀ (now next done : List Int) (act : Int) (slots : List Int), ¬ (act > 0 ∧ slots.length < 300) → Ev (fun k => impl_BackoffRun.l1 k cs now act slots next done) (slots, done, true) := by
    intro now next done act slots h
    have fin : Ev (fun k => impl_BackoffRun.j2 k cs now next act slots done false) (slots, done, true) := by
      apply Ev.succ
      simp only [impl_BackoffRun.j2]
      exact Ev.cond (fun h' => absurd h' (by decide)) (fun _ => Ev.now _)
    apply Ev.succ
    simp only [impl_BackoffRun.l1]
    refine Ev.cond (fun h1 => ?_) (fun _ => fin)
    rw [decide_eq_false (fun h2 => h ⟨h1, by omega⟩)]
    exact fin
  intro f
  induction f with
  | zero =>
    intro now next done act slots hf H hd ha
    exact stop now next done act slots (by omega)
  | succ f ih =>
    intro now next done act slots hf H hd ha
    unfold bkRun
    by_cases hp : act > 0
    · simp only [if_pos hp]
      obtain ⟨a1, a2, a3, a4, a5⟩ := bkStep_inv hc (done := done) (act := act) (t := (slots.length : Int)) H
      have hl1 : (slots ++ [((bkZ now cs.length).length : Int)]).length = slots.length + 1 := by rw [List.length_append, List.length_singleton]
      have h3 := ih _ _ _ (bkStep cs now next done act (slots.length : Int)).2.2.2 (slots ++ [((bkZ now cs.length).length : Int)]) (by rw [hl1]; omega) a1 (by rw [a5]; exact hd) (by rw [hl1]; omega)
      obtain ⟨rr, hrr⟩ : ∃ rr, bkRun cs f (bkStep cs now next done act (slots.length : Int)).1 (bkStep cs now next done act (slots.length : Int)).2.1 (bkStep cs now next done act (slots.length : Int)).2.2.1 (bkStep cs now next done act (slots.length : Int)).2.2.2 (slots ++ [((bkZ now cs.length).length : Int)]) = rr := ⟨_, rfl⟩
      rw [hrr] at h3 ⊢
      clear hrr
      have hm : ∀ i ∈ bkZ now cs.length, i < cs.length ∧ rd now (i : Int) = 0 := fun i h => bkZ_mem h
      have hnd := bkZ_nodup now cs.length
      have hzl := bkZ_len now cs.length
      have h12 := hc.n2
      have hln := H.ln
      have key : Ev (fun k => impl_BackoffRun.l3 k cs now next act slots done (natL (bkZ now now.length)) (now.length : Int) 0) (rr.1, rr.2, true) := by
        rw [hln]
        unfold bkStep at h3
        generalize bkZ now cs.length = zs at hm hnd hzl h3 ⊢
        match zs, hm, hnd, hzl, h3 with
        | [], hm, hnd, hzl, h3 =>
          have h4 := bk_l3_none (cs := cs) (next := next) (done := done) (slots := slots) (act := act) (by omega) (fun j hj => H.hn j (by omega)) (bk_l4_end (own := []) (by omega) h3 0) now.length 0 (by omega)
          rw [hln] at h4
          exact h4
        | [i], hm, hnd, hzl, h3 =>
          obtain ⟨h1, h2⟩ := hm i List.mem_cons_self
          have h4 := bk_l3_some (cs := cs) (now := now) (next := next) (done := done) (slots := slots) (act := act) (own := natL [i]) (by omega) (by rw [natL_length]; simp) (bk_l4_one hc (by omega) (by omega) H hd h1 h2 h3) now.length 0 (by omega)
          rw [hln] at h4
          exact h4
        | i :: i2 :: zs, hm, hnd, hzl, h3 =>
          have hl2 : ((natL (i :: i2 :: zs)).length : Int) = (zs.length : Int) + 2 := by rw [natL_length]; simp only [List.length_cons]; omega
          have hlz : (i :: i2 :: zs).length = zs.length + 2 := rfl
          have h5 := bk_l4_more hc (done := done) (slots := slots) (zs0 := i :: i2 :: zs) (s0 := (now, next, act)) (by omega) (by omega) (by omega) hnd (by rw [natL_length]; exact h3) (i :: i2 :: zs).length 0 (now, next, act) (by omega) rfl H (by rw [List.drop_zero]; exact hm) (by rw [hlz]; dsimp only; omega)
          have h4 := bk_l3_some (cs := cs) (now := now) (next := next) (done := done) (slots := slots) (act := act) (own := natL (i :: i2 :: zs)) (by omega) (by omega) h5 now.length 0 (by omega)
          rw [hln] at h4
          exact h4
      have h6 := bk_l2 (cs := cs) (next := next) (done := done) (slots := slots) (act := act) (by omega) key now.length 0 (by omega)
      apply Ev.succ
      simp only [impl_BackoffRun.l1]
      refine Ev.cond (fun _ => ?_) (fun h' => absurd hp h')
      rw [decide_eq_true (show (slots.length : Int) < 300 by omega)]
      apply Ev.succ
      simp only [impl_BackoffRun.j2]
      exact Ev.cond (fun _ => h6) (fun h' => absurd (by trivial) h')
    · simp only [if_neg hp]
      exact stop now next done act slots (fun h => hp h.1)
/-- The first counters. -/
def firsts (cs : List (List Int)) : List Int := cs.map fun l => rd l 0
theorem bk_l0 {cs : List (List Int)} (hc : CsOK cs) {r : BkR} {next : List Int} (h : Ev (fun k => impl_BackoffRun.l1 k cs (firsts cs) (cs.length : Int) [] next (List.replicate cs.length (-1))) r) :
    ∀ d i, i + d = cs.length → Ev (fun k => impl_BackoffRun.l0 k cs (cs.length : Int) ((firsts cs).take i) (i : Int) next cs (cs.length : Int) (i : Int)) r := by
  have hN := hc.n1
  have hN2 := hc.n2
  have hfl : (firsts cs).length = cs.length := by unfold firsts; rw [List.length_map]
  intro d
  induction d with
  | zero =>
    intro i hi
    obtain rfl : i = cs.length := by omega
    have e : slices_Repeat_int64_int64.f [(-1)] (cs.length : Int) = some (List.replicate cs.length (-1)) := by
      unfold slices_Repeat_int64_int64.f
      rw [if_pos ⟨rfl, by omega, by omega⟩, Int.toNat_natCast]; rfl
    have e2 : (firsts cs).take cs.length = firsts cs := List.take_of_length_le (by omega)
    rw [e2]
    apply Ev.succ
    simp only [impl_BackoffRun.l0]
    refine Ev.cond (fun h' => absurd h' (Int.lt_irrefl _)) (fun _ => ?_)
    exact Ev.bind (Ev.const e) h
  | succ d ih =>
    intro i hi
    have hi' : i < cs.length := by omega
    have h3 := ih (i + 1) (by omega)
    obtain ⟨hl1, hl2⟩ := hc.l1 i hi'
    have hv := hc.hv i hi'
    have c1 : (i : Int) < (cs.length : Int) := by omega
    have c2 : (0 : Int) ≤ (i : Int) := by omega
    have c3 : ¬ ((rd_L1 cs (i : Int)).length : Int) < 1 := by omega
    have c4 : ¬ ((rd_L1 cs (i : Int)).length : Int) > 40 := by omega
    have c5 : 0 < ((rd_L1 cs (i : Int)).length : Int) := by omega
    have c6 : ((firsts cs).take i).length < 17592186044416 := by rw [List.length_take]; omega
    have e : (firsts cs).take (i + 1) = (firsts cs).take i ++ [rd (rd_L1 cs (i : Int)) 0] := by
      rw [take_rd (by omega)]
      congr 2
      rw [rd_nat]
      unfold firsts rd_L1
      rw [Int.toNat_natCast, List.getD_eq_getElem?_getD, List.getD_eq_getElem?_getD, List.getElem?_map, List.getElem?_eq_getElem hi']
      rfl
    rw [e] at h3
    apply Ev.succ
    simp only [impl_BackoffRun.l0, w64_succ (show i < 9223372036854775807 by omega)]
    refine Ev.cond (fun _ => ?_) (fun h' => absurd c1 h')
    refine Ev.cond (fun _ => ?_) (fun h' => absurd c2 h')
    refine Ev.cond (fun _ => ?_) (fun h' => absurd c1 h')
    refine Ev.cond (fun h' => absurd h' c3) (fun _ => ?_)
    refine Ev.cond (fun h' => absurd h' c4) (fun _ => ?_)
    refine Ev.bind (areIn_ev 0 20 (rd_L1 cs (i : Int)) (by omega)) ?_
    rw [hv]
    refine Ev.cond (fun _ => ?_) (fun h' => absurd (by trivial) h')
    refine Ev.cond (fun _ => ?_) (fun h' => absurd c5 h')
    exact Ev.cond (fun _ => h3) (fun h' => absurd c6 h')
/-- What the run answers. -/
def bkAll (cs : List (List Int)) : List Int × List Int := bkRun cs 300 (firsts cs) (List.replicate cs.length 0) (List.replicate cs.length (-1)) (cs.length : Int) []
theorem rd_firsts {cs : List (List Int)} (j : Nat) : rd (firsts cs) (j : Int) = rd (rd_L1 cs (j : Int)) 0 := by
  rw [rd_nat]
  unfold firsts rd_L1
  rw [Int.toNat_natCast, List.getD_eq_getElem?_getD, List.getD_eq_getElem?_getD, List.getElem?_map]
  cases cs[j]? <;> rfl
theorem bkStart {cs : List (List Int)} (hc : CsOK cs) : BkI cs (firsts cs) (List.replicate cs.length 0) := by
  have hrep : ∀ j : Nat, rd (List.replicate cs.length (0 : Int)) (j : Int) = 0 := by
    intro j
    rw [rd_nat, List.getD_eq_getElem?_getD, List.getElem?_replicate]
    split <;> rfl
  refine ⟨by unfold firsts; rw [List.length_map], List.length_replicate, fun j hj => ?_, fun j hj _ => ?_⟩
  · rw [rd_firsts]
    have h1 := hc.l1 j hj
    have h2 := inAll_mem (hc.hv j hj) _ (rd_mem (xs := rd_L1 cs (j : Int)) (n := 0) (by omega))
    rw [show ((0 : Nat) : Int) = 0 from rfl] at h2
    omega
  · rw [hrep]
    have h1 := hc.l1 j hj
    omega
theorem BackoffRun_ev {cs : List (List Int)} (hc : CsOK cs) : Ev (fun k => impl_BackoffRun.f k cs) ((bkAll cs).1, (bkAll cs).2, true) := by
  have hN := hc.n1
  have hN2 := hc.n2
  have hb : impl_areStations.f (cs.length : Int) = some true := by
    unfold impl_areStations.f
    rw [within_eq, decide_eq_true (by omega)]; rfl
  have c1 : (0 : Int) ≤ (cs.length : Int) := by omega
  have c2 : cs.length ≤ 35184372088832 := by omega
  have h1 := bk_l1 hc 300 (firsts cs) (List.replicate cs.length 0) (List.replicate cs.length (-1)) (cs.length : Int) [] rfl (bkStart hc) List.length_replicate (by simp; omega)
  have h2 := bk_l0 hc h1 cs.length 0 (by omega)
  unfold impl_BackoffRun.f
  refine Ev.bind (Ev.const hb) ?_
  simp only [Int.toNat_natCast]
  refine Ev.cond (fun _ => ?_) (fun h' => absurd (by trivial) h')
  refine Ev.cond (fun _ => ?_) (fun h' => absurd c1 h')
  exact Ev.cond (fun _ => h2) (fun h' => absurd c2 h')

/-! toInt64S -/
theorem toInt64S_l0 (xs : List Int) (hn : xs.length ≤ 1099511627776) : ∀ d n, n + d = xs.length → Ev (fun k => laws_toInt64S.l0 k xs (xs.take n ++ List.replicate d 0) (n : Int)) xs := by
  intro d
  induction d with
  | zero =>
    intro n h
    apply Ev.succ
    have h1 : ¬ ((n : Int) < (xs.length : Int)) := by omega
    have h2 : xs.take n = xs := List.take_of_length_le (by omega)
    simp only [laws_toInt64S.l0, h1, if_false, h2, List.replicate_zero, List.append_nil]
    exact Ev.now _
  | succ d ih =>
    intro n h
    apply Ev.succ
    have h1 : (n : Int) < (xs.length : Int) := by omega
    have h2 : (0 : Int) ≤ (n : Int) := by omega
    have h3 := ih (n + 1) (by omega)
    have h4 : (n : Int) < ((xs.take n ++ List.replicate (d + 1) (0 : Int)).length : Int) := by
      simp only [List.length_append, List.length_take, List.length_replicate]; omega
    have h5 : (xs.take n ++ List.replicate (d + 1) (0 : Int)).set n (rd xs (n : Int)) = xs.take (n + 1) ++ List.replicate d 0 := by
      rw [List.replicate_succ, set_mid _ _ _ _ _ (by rw [List.length_take]; omega), take_rd (show n < xs.length by omega)]
      simp
    simp only [laws_toInt64S.l0, h1, h2, h4, if_true, Int.toNat_natCast, h5, w64_succ (show n < 9223372036854775807 by omega)]
    exact h3
theorem toInt64S_ev (xs : List Int) (hn : xs.length ≤ 1099511627776) : Ev (fun k => laws_toInt64S.f k xs) xs := by
  unfold laws_toInt64S.f
  have h1 : (0 : Int) ≤ (xs.length : Int) := by omega
  have h2 : xs.length ≤ 35184372088832 := by omega
  simp only [h1, if_true, Int.toNat_natCast, h2]
  have h := toInt64S_l0 xs hn xs.length 0 (by omega)
  exact h

/-! markInt64S -/
theorem markInt64S_l0 (m : Int) (hm : 0 ≤ m) (hm2 : m ≤ 4611686018427387904) : ∀ (d : Nat) (ws xs : List Int) (n : Nat), ws.length = n → xs.length = d → n + d ≤ 1099511627776 → Ev (fun k => laws_markInt64S.l0 k (ws ++ xs) (m + n) (n : Int)) (m + n + d, ws ++ upFrom (m + n) d) := by
  intro d
  induction d with
  | zero =>
    intro ws xs n h hx hn
    apply Ev.succ
    obtain rfl : xs = [] := List.eq_nil_of_length_eq_zero hx
    have h1 : ¬ ((n : Int) < ((ws ++ ([] : List Int)).length : Int)) := by simp; omega
    simp only [laws_markInt64S.l0, h1, if_false, upFrom]
    exact Ev.of (fun _ => LeO.refl _) (k := 0) (by simp)
  | succ d ih =>
    intro ws xs n h hx hn
    apply Ev.succ
    obtain ⟨x, xs, rfl⟩ : ∃ x ys, xs = x :: ys := by
      cases xs with
      | nil => simp at hx
      | cons x ys => exact ⟨x, ys, rfl⟩
    have h1 : ((n : Int) < ((ws ++ x :: xs).length : Int)) := by simp; omega
    have h2 : (0 : Int) ≤ (n : Int) := by omega
    have h3 := ih (ws ++ [m + n]) xs (n + 1) (by simp [h]) (by simpa using hx) (by omega)
    have h5 : wrap64 (m + n + 1) = m + ((n + 1 : Nat) : Int) := by rw [w64 (by omega) (by omega)]; omega
    simp only [laws_markInt64S.l0, h1, h2, if_true, Int.toNat_natCast, set_mid _ _ _ _ _ h, h5, w64_succ (show n < 9223372036854775807 by omega)]
    have e1 : ws ++ [m + (n : Int)] ++ xs = ws ++ (m + n) :: xs := by simp
    have e2 : ws ++ [m + (n : Int)] ++ upFrom (m + ((n + 1 : Nat) : Int)) d = ws ++ upFrom (m + n) (d + 1) := by
      rw [upFrom, List.append_assoc]
      have e3 : m + ((n + 1 : Nat) : Int) = m + n + 1 := by omega
      rw [e3]; rfl
    have e4 : m + ((n + 1 : Nat) : Int) + (d : Int) = m + n + ((d + 1 : Nat) : Int) := by omega
    rw [e1, e2, e4] at h3
    exact h3
theorem markInt64S_ev (xs : List Int) (m : Int) (hm : 0 ≤ m) (hm2 : m ≤ 4611686018427387904) (hn : xs.length ≤ 1099511627776) : Ev (fun k => laws_markInt64S.f k xs m) (m + (xs.length : Int), upFrom m xs.length) := by
  have h := markInt64S_l0 m hm hm2 xs.length [] xs 0 rfl rfl (by omega)
  have e : m + ((0 : Nat) : Int) = m := by omega
  rw [e] at h
  exact h

/-! heldInt64S -/
theorem heldInt64S_l0 (m : Int) (hm : 0 ≤ m) (hm2 : m ≤ 4611686018427387904) : ∀ (d : Nat) (ws : List Int) (n : Nat), ws.length = n → n + d ≤ 1099511627776 → Ev (fun k => laws_heldInt64S.l0 k (ws ++ upFrom (m + n) d) (m + n) (n : Int)) (m + n + d) := by
  intro d
  induction d with
  | zero =>
    intro ws n h hn
    apply Ev.succ
    have h1 : ¬ ((n : Int) < ((ws ++ upFrom (m + n) 0).length : Int)) := by simp [upFrom]; omega
    simp only [laws_heldInt64S.l0, h1, if_false]
    exact Ev.of (fun _ => LeO.refl _) (k := 0) (by simp)
  | succ d ih =>
    intro ws n h hn
    apply Ev.succ
    have h1 : ((n : Int) < ((ws ++ upFrom (m + n) (d + 1)).length : Int)) := by simp [upFrom_length]; omega
    have h2 : (0 : Int) ≤ (n : Int) := by omega
    have h3 := ih (ws ++ [m + n]) (n + 1) (by simp [h]) (by omega)
    have h5 : wrap64 (m + n + 1) = m + ((n + 1 : Nat) : Int) := by rw [w64 (by omega) (by omega)]; omega
    have h6 : rd (ws ++ upFrom (m + n) (d + 1)) (n : Int) = m + n := by
      rw [rd_nat, List.getD_eq_getElem?_getD, List.getElem?_append_right (by omega), h, Nat.sub_self]; rfl
    simp only [laws_heldInt64S.l0, h1, h2, if_true, h5, h6, w64_succ (show n < 9223372036854775807 by omega)]
    have e2 : ws ++ [m + (n : Int)] ++ upFrom (m + ((n + 1 : Nat) : Int)) d = ws ++ upFrom (m + n) (d + 1) := by
      rw [upFrom, List.append_assoc]
      have e3 : m + ((n + 1 : Nat) : Int) = m + n + 1 := by omega
      rw [e3]; rfl
    have e4 : m + ((n + 1 : Nat) : Int) + (d : Int) = m + n + ((d + 1 : Nat) : Int) := by omega
    rw [e2, e4] at h3
    exact h3
theorem heldInt64S_ev (m : Int) (l : Nat) (hm : 0 ≤ m) (hm2 : m ≤ 4611686018427387904) (hn : l ≤ 1099511627776) : Ev (fun k => laws_heldInt64S.f k (upFrom m l) m) (m + (l : Int)) := by
  have h := heldInt64S_l0 m hm hm2 l [] 0 rfl (by omega)
  have e : m + ((0 : Nat) : Int) = m := by omega
  rw [e] at h
  exact h

/-! eqInt64S -/
theorem eqInt64S_l0 (xs ys : List Int) (hl : xs.length = ys.length) (hn : xs.length ≤ 1099511627776) : ∀ d n, n + d = xs.length → Ev (fun k => laws_eqInt64S.l0 k xs ys (n : Int)) (decide (xs.drop n = ys.drop n)) := by
  intro d
  induction d with
  | zero =>
    intro n h
    apply Ev.succ
    have h1 : ¬ ((n : Int) < (xs.length : Int)) := by omega
    have h2 : xs.drop n = [] := List.drop_eq_nil_of_le (by omega)
    have h3 : ys.drop n = [] := List.drop_eq_nil_of_le (by omega)
    simp only [laws_eqInt64S.l0, h1, if_false, h2, h3, decide_true]
    exact Ev.now true
  | succ d ih =>
    intro n h
    apply Ev.succ
    have h1 : (n : Int) < (xs.length : Int) := by omega
    have h1' : (n : Int) < (ys.length : Int) := by omega
    have h2 : (0 : Int) ≤ (n : Int) := by omega
    have h3 := ih (n + 1) (by omega)
    rw [drop_rd (show n < xs.length by omega), drop_rd (show n < ys.length by omega)]
    simp only [laws_eqInt64S.l0, h1, h1', h2, if_true, w64_succ (show n < 9223372036854775807 by omega), List.cons.injEq]
    by_cases hc : rd xs (n : Int) = rd ys (n : Int)
    · simp only [hc, if_true, true_and]; exact h3
    · simp only [hc, if_false, false_and, decide_false]; exact Ev.now false
theorem eqInt64S_ev (xs ys : List Int) (hn : xs.length ≤ 1099511627776) : Ev (fun k => laws_eqInt64S.f k xs ys) (decide (xs = ys)) := by
  unfold laws_eqInt64S.f
  by_cases hl : xs.length = ys.length
  · have h1 : (xs.length : Int) = (ys.length : Int) := by omega
    simp only [h1, if_true]
    have h := eqInt64S_l0 xs ys hl hn xs.length 0 (by omega)
    exact h
  · have h1 : ¬ (xs.length : Int) = (ys.length : Int) := by omega
    have h2 : ¬ xs = ys := fun h => hl (by rw [h])
    simp only [h1, if_false, h2, decide_false]
    exact Ev.now false
theorem eqInt64S_same (xs : List Int) (hn : xs.length ≤ 1099511627776) : Ev (fun k => laws_eqInt64S.f k xs xs) true := by
  have h := eqInt64S_ev xs xs hn
  rw [decide_eq_true rfl] at h
  exact h

/-! rowsSS -/
/-- How many numbers stand in lists. -/
def szR : List (List Int) → Nat
  | [] => 0
  | x :: r => x.length + szR r
def rowsUp : Int → List (List Int) → List (List Int)
  | _, [] => []
  | m, x :: r => upFrom m x.length :: rowsUp (m + (x.length : Int)) r
theorem LL_at (ws xs : List (List Int)) (x : List Int) (n : Nat) (h : ws.length = n) : (ws ++ x :: xs).getD n ([] : List Int) = x := by
  rw [List.getD_eq_getElem?_getD, List.getElem?_append_right (by omega), h, Nat.sub_self]; rfl
theorem markSS_l0 : ∀ (xs ws : List (List Int)) (m : Int) (n : Nat), ws.length = n → 0 ≤ m → m + (szR xs : Int) ≤ 1099511627776 → n + xs.length ≤ 1099511627776 →
    Ev (fun k => laws_markInt64SS.l0 k (ws ++ xs) m (n : Int)) (m + (szR xs : Int), ws ++ rowsUp m xs) := by
  intro xs
  induction xs with
  | nil =>
    intro ws m n hw hm hs hn
    have c1 : ¬ (n : Int) < ((ws ++ []).length : Int) := by rw [List.append_nil]; omega
    apply Ev.succ
    simp only [laws_markInt64SS.l0, szR, rowsUp]
    refine Ev.cond (fun h' => absurd h' c1) (fun _ => ?_)
    exact Ev.const (by simp)
  | cons x xs ih =>
    intro ws m n hw hm hs hn
    simp only [szR, List.length_cons] at hs hn
    have c1 : (n : Int) < ((ws ++ x :: xs).length : Int) := by rw [List.length_append, List.length_cons]; omega
    have c2 : (0 : Int) ≤ (n : Int) := by omega
    have h3 := ih (ws ++ [upFrom m x.length]) (m + (x.length : Int)) (n + 1) (by rw [List.length_append, List.length_singleton]; omega) (by omega) (by omega) (by omega)
    rw [List.append_assoc, List.append_assoc] at h3
    simp only [List.singleton_append] at h3
    have hmk := markInt64S_ev x m hm (by omega) (by omega)
    apply Ev.succ
    simp only [laws_markInt64SS.l0, Int.toNat_natCast, LL_at ws xs x n hw, w64_succ (show n < 9223372036854775807 by omega), szR, rowsUp]
    refine Ev.cond (fun _ => ?_) (fun h' => absurd c1 h')
    refine Ev.cond (fun _ => ?_) (fun h' => absurd c2 h')
    refine Ev.bind hmk ?_
    have e : (ws ++ x :: xs).set n (upFrom m x.length) = ws ++ upFrom m x.length :: xs := set_mid _ _ _ _ _ hw
    simp only [e]
    rw [show m + ((x.length + szR xs : Nat) : Int) = m + (x.length : Int) + (szR xs : Int) by omega]
    exact h3
theorem markSS_ev (xs : List (List Int)) (m : Int) (hm : 0 ≤ m) (hs : m + (szR xs : Int) ≤ 1099511627776) (hn : xs.length ≤ 1099511627776) : Ev (fun k => laws_markInt64SS.f k xs m) (m + (szR xs : Int), rowsUp m xs) := by
  have h := markSS_l0 xs [] m 0 rfl hm hs (by omega)
  exact h
theorem eqSS_same (xs : List (List Int)) (hn : xs.length ≤ 1099511627776) (hl : ∀ x ∈ xs, x.length ≤ 1099511627776) : Ev (fun k => laws_eqInt64SS.f k xs xs) true := by
  have key : ∀ d n, n + d = xs.length → Ev (fun k => laws_eqInt64SS.l0 k xs xs (n : Int)) true := by
    intro d
    induction d with
    | zero =>
      intro n h
      have c1 : ¬ (n : Int) < (xs.length : Int) := by omega
      apply Ev.succ
      simp only [laws_eqInt64SS.l0]
      exact Ev.cond (fun h' => absurd h' c1) (fun _ => Ev.now _)
    | succ d ih =>
      intro n h
      have c1 : (n : Int) < (xs.length : Int) := by omega
      have c2 : (0 : Int) ≤ (n : Int) := by omega
      have e : rd_L1 xs (n : Int) = xs[n]'(by omega) := by
        unfold rd_L1
        rw [Int.toNat_natCast, List.getD_eq_getElem?_getD, List.getElem?_eq_getElem (by omega)]; rfl
      have hb := hl _ (List.getElem_mem (show n < xs.length by omega))
      rw [← e] at hb
      apply Ev.succ
      simp only [laws_eqInt64SS.l0, w64_succ (show n < 9223372036854775807 by omega)]
      refine Ev.cond (fun _ => ?_) (fun h' => absurd c1 h')
      refine Ev.cond (fun _ => ?_) (fun h' => absurd c2 h')
      refine Ev.cond (fun _ => ?_) (fun h' => absurd c1 h')
      refine Ev.bind (eqInt64S_same _ hb) ?_
      exact Ev.cond (fun _ => ih (n + 1) (by omega)) (fun h' => absurd (by trivial) h')
  unfold laws_eqInt64SS.f
  exact Ev.cond (fun _ => key xs.length 0 (by omega)) (fun h' => absurd rfl h')
theorem szR_le (xs : List (List Int)) (b : Nat) (h : ∀ x ∈ xs, x.length ≤ b) : szR xs ≤ b * xs.length := by
  induction xs with
  | nil => exact Nat.zero_le _
  | cons x xs ih =>
    have h1 := ih (fun y hy => h y (List.mem_cons_of_mem _ hy))
    have h2 := h x List.mem_cons_self
    simp only [szR, List.length_cons]
    rw [Nat.mul_succ]
    omega

/-! toInt64SS -/
theorem LL_get {xs : List (List Int)} {n : Nat} (h : n < xs.length) : rd_L1 xs (n : Int) = xs[n] := by
  unfold rd_L1
  rw [Int.toNat_natCast, List.getD_eq_getElem?_getD, List.getElem?_eq_getElem h]; rfl
theorem toInt64SS_l0 (xs : List (List Int)) (hn : xs.length ≤ 1099511627776) (hx : ∀ x ∈ xs, x.length ≤ 1099511627776) : ∀ d n, n + d = xs.length → Ev (fun k => laws_toInt64SS.l0 k xs (xs.take n ++ List.replicate d []) (n : Int)) xs := by
  intro d
  induction d with
  | zero =>
    intro n h
    apply Ev.succ
    have h1 : ¬ ((n : Int) < (xs.length : Int)) := by omega
    have h2 : xs.take n = xs := List.take_of_length_le (by omega)
    simp only [laws_toInt64SS.l0, h1, if_false, h2, List.replicate_zero, List.append_nil]
    exact Ev.now _
  | succ d ih =>
    intro n h
    have hn' : n < xs.length := by omega
    have h1 : (n : Int) < (xs.length : Int) := by omega
    have h2 : (0 : Int) ≤ (n : Int) := by omega
    have h3 := ih (n + 1) (by omega)
    have h4 : (n : Int) < ((xs.take n ++ List.replicate (d + 1) ([] : List Int)).length : Int) := by
      simp only [List.length_append, List.length_take, List.length_replicate]; omega
    have h5 : (xs.take n ++ List.replicate (d + 1) ([] : List Int)).set n (rd_L1 xs (n : Int)) = xs.take (n + 1) ++ List.replicate d [] := by
      rw [List.replicate_succ, set_mid _ _ _ _ _ (by rw [List.length_take]; omega), LL_get hn', List.take_succ_eq_append_getElem hn', List.append_assoc, List.singleton_append]
    have hb := hx _ (List.getElem_mem hn')
    rw [← LL_get hn'] at hb
    apply Ev.succ
    simp only [laws_toInt64SS.l0, Int.toNat_natCast, w64_succ (show n < 9223372036854775807 by omega)]
    refine Ev.cond (fun _ => ?_) (fun h' => absurd h1 h')
    refine Ev.cond (fun _ => ?_) (fun h' => absurd h2 h')
    refine Ev.bind (toInt64S_ev _ hb) ?_
    refine Ev.cond (fun _ => ?_) (fun h' => absurd h4 h')
    rw [h5]
    exact h3
theorem toInt64SS_ev (xs : List (List Int)) (hn : xs.length ≤ 11728124029610) (hx : ∀ x ∈ xs, x.length ≤ 1099511627776) (hn2 : xs.length ≤ 1099511627776) : Ev (fun k => laws_toInt64SS.f k xs) xs := by
  have h1 : (0 : Int) ≤ (xs.length : Int) := by omega
  have h := toInt64SS_l0 xs hn2 hx xs.length 0 (by omega)
  unfold laws_toInt64SS.f
  simp only [Int.toNat_natCast]
  refine Ev.cond (fun _ => ?_) (fun h' => absurd h1 h')
  exact Ev.cond (fun _ => h) (fun h' => absurd hn h')
/-- The size of lists of numbers: too many, or bounded. -/
theorem szSS_l0 (xs : List (List Int)) (hx : ∀ x ∈ xs, x.length ≤ maxLen) (hn : xs.length ≤ 1048576) : ∀ (d n : Nat) (a : Int), n + d = xs.length → 0 ≤ a → a ≤ 1048576 →
    ∃ s, Ev (fun k => laws_szInt64SS.l0 k xs a (n : Int)) s ∧ (s < 0 ∨ (szR (xs.drop n) : Int) ≤ a) := by
  intro d
  induction d with
  | zero =>
    intro n a h h0 h1
    have c1 : ¬ (n : Int) < (xs.length : Int) := by omega
    refine ⟨a, ?_, .inr ?_⟩
    · apply Ev.succ
      simp only [laws_szInt64SS.l0]
      exact Ev.cond (fun h' => absurd h' c1) (fun _ => Ev.now _)
    · rw [List.drop_eq_nil_of_le (by omega)]
      simp only [szR]; omega
  | succ d ih =>
    intro n a h h0 h1
    have hn' : n < xs.length := by omega
    have c1 : (n : Int) < (xs.length : Int) := by omega
    have c2 : (0 : Int) ≤ (n : Int) := by omega
    have hb := hx _ (List.getElem_mem hn')
    have hm : maxLen ≤ 9223372036854775807 := by decide
    have e1 : wrap64 (a - ((rd_L1 xs (n : Int)).length : Int)) = a - ((rd_L1 xs (n : Int)).length : Int) := by rw [LL_get hn']; exact w64 (by omega) (by omega)
    by_cases hc : a - ((rd_L1 xs (n : Int)).length : Int) < 0
    · have e2 : laws_szInt64S.f (rd_L1 xs (n : Int)) a = some (-1) := by
        unfold laws_szInt64S.f
        rw [e1, if_pos hc]
      refine ⟨-1, ?_, .inl (by omega)⟩
      apply Ev.succ
      simp only [laws_szInt64SS.l0]
      refine Ev.cond (fun _ => ?_) (fun h' => absurd c1 h')
      refine Ev.cond (fun _ => ?_) (fun h' => absurd c2 h')
      refine Ev.bind (Ev.const e2) ?_
      exact Ev.cond (fun _ => Ev.now _) (fun h' => absurd (by decide) h')
    · have e2 : laws_szInt64S.f (rd_L1 xs (n : Int)) a = some (a - ((rd_L1 xs (n : Int)).length : Int)) := by
        unfold laws_szInt64S.f
        rw [e1, if_neg hc]
      obtain ⟨s, g1, g2⟩ := ih (n + 1) (a - ((rd_L1 xs (n : Int)).length : Int)) (by omega) (by omega) (by omega)
      refine ⟨s, ?_, ?_⟩
      · apply Ev.succ
        simp only [laws_szInt64SS.l0, w64_succ (show n < 9223372036854775807 by omega)]
        refine Ev.cond (fun _ => ?_) (fun h' => absurd c1 h')
        refine Ev.cond (fun _ => ?_) (fun h' => absurd c2 h')
        refine Ev.bind (Ev.const e2) ?_
        exact Ev.cond (fun h' => absurd h' hc) (fun _ => g1)
      · rcases g2 with g2 | g2
        · exact .inl g2
        · rw [List.drop_eq_getElem_cons hn']
          simp only [szR]
          rw [LL_get hn'] at g2
          exact .inr (by omega)
theorem szSS_ev (xs : List (List Int)) (hn : xs.length ≤ maxLen) (hx : ∀ x ∈ xs, x.length ≤ maxLen) : ∃ s, Ev (fun k => laws_szInt64SS.f k xs 1048576) s ∧ (s < 0 ∨ (xs.length ≤ 1048576 ∧ szR xs ≤ 1048576)) := by
  have hm : maxLen ≤ 9223372036854775807 := by decide
  have e1 : wrap64 (1048576 - (xs.length : Int)) = 1048576 - (xs.length : Int) := w64 (by omega) (by omega)
  unfold laws_szInt64SS.f
  simp only [e1]
  by_cases hc : 1048576 - (xs.length : Int) < 0
  · exact ⟨-1, Ev.cond (fun _ => Ev.now _) (fun h' => absurd hc h'), .inl (by omega)⟩
  · obtain ⟨s, g1, g2⟩ := szSS_l0 xs hx (by omega) xs.length 0 (1048576 - (xs.length : Int)) (by omega) (by omega) (by omega)
    refine ⟨s, Ev.cond (fun h' => absurd h' hc) (fun _ => g1), ?_⟩
    rw [List.drop_zero] at g2
    rcases g2 with g2 | g2
    · exact .inl g2
    · exact .inr ⟨by omega, by omega⟩
theorem szR_mem {xs : List (List Int)} {x : List Int} (h : x ∈ xs) : x.length ≤ szR xs := by
  induction xs with
  | nil => exact absurd h (by simp)
  | cons y ys ih =>
    simp only [szR]
    rcases List.mem_cons.1 h with h | h
    · subst h; omega
    · have := ih h; omega

/-! l00In -/
theorem l00In_eq (a b c : Int) : spec_l00In.f a b c = some (decide (b ≤ a ∧ a ≤ c)) := by
  unfold spec_l00In.f
  by_cases h : b ≤ a
  · simp [h, ge_iff_le]
  · simp [h, ge_iff_le]

theorem l09Many_eq2 (n : Int) : spec_l09Many.f n = some (decide (1 ≤ n ∧ n ≤ 12)) := by
  unfold spec_l09Many.f
  rw [l00In_eq]; rfl
/-- A list of counters that is taken. -/
def ctOK (y : List Int) : Prop := 1 ≤ y.length ∧ y.length ≤ 40 ∧ inAll 0 20 y = true
instance (y : List Int) : Decidable (ctOK y) := by unfold ctOK; infer_instance
theorem CsOK_iff (cs : List (List Int)) : CsOK cs ↔ (1 ≤ cs.length ∧ cs.length ≤ 12) ∧ ∀ j : Nat, j < cs.length → ctOK (rd_L1 cs (j : Int)) :=
  ⟨fun h => ⟨⟨h.n1, h.n2⟩, fun j hj => ⟨(h.l1 j hj).1, (h.l1 j hj).2, h.hv j hj⟩⟩, fun h => ⟨h.1.1, h.1.2, fun j hj => ⟨(h.2 j hj).1, (h.2 j hj).2.1⟩, fun j hj => (h.2 j hj).2.2⟩⟩
/-- The reference's look at the counters. -/
theorem cnt_l1 {cs : List (List Int)} {n : Nat} (hn : n < cs.length) (hl : (rd_L1 cs (n : Int)).length ≤ 1000) (r : Bool) (h1 : inAll 0 20 (rd_L1 cs (n : Int)) = true → Ev (fun k => spec_l09Counters.l0 k cs (wrap64 ((n : Int) + 1))) r) (h2 : inAll 0 20 (rd_L1 cs (n : Int)) = false → r = false) :
    ∀ (d i : Nat), i + d = (rd_L1 cs (n : Int)).length → inAll 0 20 ((rd_L1 cs (n : Int)).take i) = true → Ev (fun k => spec_l09Counters.l1 k cs (n : Int) (i : Int)) r := by
  have c1 : (n : Int) < (cs.length : Int) := by omega
  have c2 : (0 : Int) ≤ (n : Int) := by omega
  generalize hy : rd_L1 cs (n : Int) = y at hl h1 h2 ⊢
  intro d
  induction d with
  | zero =>
    intro i hi hin
    rw [List.take_of_length_le (by omega)] at hin
    have c3 : ¬ (i : Int) < (y.length : Int) := by omega
    apply Ev.succ
    simp only [spec_l09Counters.l1, hy]
    refine Ev.cond (fun _ => ?_) (fun h' => absurd c2 h')
    refine Ev.cond (fun _ => ?_) (fun h' => absurd c1 h')
    exact Ev.cond (fun h' => absurd h' c3) (fun _ => h1 hin)
  | succ d ih =>
    intro i hi hin
    have hi' : i < y.length := by omega
    have c3 : (i : Int) < (y.length : Int) := by omega
    have c4 : (0 : Int) ≤ (i : Int) := by omega
    apply Ev.succ
    simp only [spec_l09Counters.l1, hy, w64_succ (show i < 9223372036854775807 by omega)]
    refine Ev.cond (fun _ => ?_) (fun h' => absurd c2 h')
    refine Ev.cond (fun _ => ?_) (fun h' => absurd c1 h')
    refine Ev.cond (fun _ => ?_) (fun h' => absurd c3 h')
    refine Ev.cond (fun _ => ?_) (fun h' => absurd c4 h')
    refine Ev.bind (Ev.const (l00In_eq _ _ _)) ?_
    by_cases hv : 0 ≤ rd y (i : Int) ∧ rd y (i : Int) ≤ 20
    · rw [decide_eq_true hv]
      refine Ev.cond (fun _ => ih (i + 1) (by omega) ?_) (fun h' => absurd (by trivial) h')
      rw [take_rd hi']
      refine inAll_of (fun x hx => ?_)
      rcases List.mem_append.1 hx with hx | hx
      · exact inAll_mem hin x hx
      · rw [List.mem_singleton.1 hx]; exact hv
    · rw [decide_eq_false hv]
      have hf : inAll 0 20 y = false := by
        rcases hb : inAll 0 20 y with _ | _
        · rfl
        · exact absurd (inAll_mem hb _ (rd_mem hi')) hv
      rw [h2 hf]
      exact Ev.cond (fun h' => absurd h' (by decide)) (fun _ => Ev.now _)
theorem cnt_l0 {cs : List (List Int)} (hn : cs.length ≤ 1099511627776) (hm : ∀ j : Nat, j < cs.length → (rd_L1 cs (j : Int)).length ≤ 1099511627776) : ∀ (d n : Nat), n + d = cs.length → (∀ j : Nat, j < n → ctOK (rd_L1 cs (j : Int))) →
    (CsOK cs → Ev (fun k => spec_l09Counters.l0 k cs (n : Int)) true) ∧ (¬ CsOK cs → Ev (fun k => spec_l09Counters.l0 k cs (n : Int)) false) := by
  intro d
  induction d with
  | zero =>
    intro n h hp
    have c1 : ¬ (n : Int) < (cs.length : Int) := by omega
    have key : ∀ b, b = decide (1 ≤ (cs.length : Int) ∧ (cs.length : Int) ≤ 12) → Ev (fun k => spec_l09Counters.l0 k cs (n : Int)) b := by
      rintro b rfl
      apply Ev.succ
      simp only [spec_l09Counters.l0]
      refine Ev.cond (fun h' => absurd h' c1) (fun _ => ?_)
      exact Ev.bind (Ev.const (l09Many_eq2 _)) (Ev.now _)
    refine ⟨fun hc => key _ ?_, fun hc => key _ ?_⟩
    · have h1 := hc.n1; have h2 := hc.n2
      exact (decide_eq_true (by omega)).symm
    · refine (decide_eq_false (fun h2 => hc ?_)).symm
      exact (CsOK_iff cs).2 ⟨by omega, fun j hj => hp j (by omega)⟩
  | succ d ih =>
    intro n h hp
    have hn' : n < cs.length := by omega
    have c1 : (n : Int) < (cs.length : Int) := by omega
    have c2 : (0 : Int) ≤ (n : Int) := by omega
    have hml := hm n hn'
    by_cases hl : 1 ≤ (rd_L1 cs (n : Int)).length ∧ (rd_L1 cs (n : Int)).length ≤ 40
    · have c3 : ¬ ((rd_L1 cs (n : Int)).length : Int) < 1 := by omega
      have go : ∀ r, Ev (fun k => spec_l09Counters.l1 k cs (n : Int) 0) r → Ev (fun k => spec_l09Counters.l0 k cs (n : Int)) r := by
        intro r hr
        apply Ev.succ
        simp only [spec_l09Counters.l0]
        refine Ev.cond (fun _ => ?_) (fun h' => absurd c1 h')
        refine Ev.cond (fun _ => ?_) (fun h' => absurd c2 h')
        refine Ev.cond (fun h' => absurd h' c3) (fun _ => ?_)
        rw [decide_eq_false (show ¬ ((rd_L1 cs (n : Int)).length : Int) > 40 by omega)]
        apply Ev.succ
        simp only [spec_l09Counters.j1]
        exact Ev.cond (fun h' => absurd h' (by decide)) (fun _ => hr)
      have hw := w64_succ (show n < 9223372036854775807 by omega)
      have hnil : inAll 0 20 ((rd_L1 cs (n : Int)).take 0) = true := rfl
      rcases hb : inAll 0 20 (rd_L1 cs (n : Int)) with _ | _
      · have hbad : ¬ CsOK cs := fun hc => by have := hc.hv n hn'; rw [hb] at this; exact absurd this (by decide)
        exact ⟨fun hc => absurd hc hbad, fun _ => go _ (cnt_l1 hn' (by omega) false (fun h' => absurd (hb.symm.trans h') (by decide)) (fun _ => rfl) (rd_L1 cs (n : Int)).length 0 (by omega) hnil)⟩
      · obtain ⟨i1, i2⟩ := ih (n + 1) (by omega) (fun j hj => by
          by_cases hjn : j = n
          · subst hjn; exact ⟨hl.1, hl.2, hb⟩
          · exact hp j (by omega))
        rw [← hw] at i1 i2
        exact ⟨fun hc => go _ (cnt_l1 hn' (by omega) true (fun _ => i1 hc) (fun h' => absurd (hb.symm.trans h') (by decide)) (rd_L1 cs (n : Int)).length 0 (by omega) hnil),
          fun hc => go _ (cnt_l1 hn' (by omega) false (fun _ => i2 hc) (fun _ => rfl) (rd_L1 cs (n : Int)).length 0 (by omega) hnil)⟩
    · have hbad : ¬ CsOK cs := fun hc => hl (hc.l1 n hn')
      refine ⟨fun hc => absurd hc hbad, fun _ => ?_⟩
      have bad : Ev (fun k => spec_l09Counters.j1 k cs (n : Int) true) false := by
        apply Ev.succ
        simp only [spec_l09Counters.j1]
        exact Ev.cond (fun _ => Ev.now _) (fun h' => absurd (by trivial) h')
      apply Ev.succ
      simp only [spec_l09Counters.l0]
      refine Ev.cond (fun _ => ?_) (fun h' => absurd c1 h')
      refine Ev.cond (fun _ => ?_) (fun h' => absurd c2 h')
      refine Ev.cond (fun _ => bad) (fun h' => ?_)
      rw [decide_eq_true (show ((rd_L1 cs (n : Int)).length : Int) > 40 by omega)]
      exact bad
/-- The program, for counters that are not taken. -/
theorem bad_l0 {cs : List (List Int)} (hc : ¬ CsOK cs) (hN : 1 ≤ cs.length ∧ cs.length ≤ 12) (hm : ∀ j : Nat, j < cs.length → (rd_L1 cs (j : Int)).length ≤ 1099511627776) {next : List Int} :
    ∀ (d n : Nat) (now : List Int) (act : Int), n + d = cs.length → now.length = n → (∀ j : Nat, j < n → ctOK (rd_L1 cs (j : Int))) → Ev (fun k => impl_BackoffRun.l0 k cs (cs.length : Int) now act next cs (cs.length : Int) (n : Int)) (([] : List Int), ([] : List Int), false) := by
  intro d
  induction d with
  | zero =>
    intro n now act h _ hp
    exact absurd ((CsOK_iff cs).2 ⟨hN, fun j hj => hp j (by omega)⟩) hc
  | succ d ih =>
    intro n now act h hnl hp
    have hn' : n < cs.length := by omega
    have c1 : (n : Int) < (cs.length : Int) := by omega
    have c2 : (0 : Int) ≤ (n : Int) := by omega
    have c6 : now.length < 17592186044416 := by omega
    apply Ev.succ
    simp only [impl_BackoffRun.l0, w64_succ (show n < 9223372036854775807 by omega)]
    refine Ev.cond (fun _ => ?_) (fun h' => absurd c1 h')
    refine Ev.cond (fun _ => ?_) (fun h' => absurd c2 h')
    refine Ev.cond (fun _ => ?_) (fun h' => absurd c1 h')
    refine Ev.cond (fun _ => Ev.now _) (fun h1 => ?_)
    refine Ev.cond (fun _ => Ev.now _) (fun h2 => ?_)
    refine Ev.bind (areIn_ev 0 20 (rd_L1 cs (n : Int)) (hm n hn')) ?_
    refine Ev.cond (fun h3 => ?_) (fun _ => Ev.now _)
    have c5 : 0 < ((rd_L1 cs (n : Int)).length : Int) := by omega
    refine Ev.cond (fun _ => ?_) (fun h' => absurd c5 h')
    refine Ev.cond (fun _ => ?_) (fun h' => absurd c6 h')
    refine ih (n + 1) _ _ (by omega) (by rw [List.length_append, List.length_singleton]; omega) (fun j hj => ?_)
    by_cases hjn : j = n
    · subst hjn; exact ⟨by omega, by omega, h3⟩
    · exact hp j (by omega)
theorem impl_bad {cs : List (List Int)} (hc : ¬ CsOK cs) (hm : ∀ j : Nat, j < cs.length → (rd_L1 cs (j : Int)).length ≤ 1099511627776) : Ev (fun k => impl_BackoffRun.f k cs) (([] : List Int), ([] : List Int), false) := by
  have hb : impl_areStations.f (cs.length : Int) = some (decide (1 ≤ (cs.length : Int) ∧ (cs.length : Int) ≤ 12)) := by
    unfold impl_areStations.f
    rw [within_eq]; rfl
  unfold impl_BackoffRun.f
  refine Ev.bind (Ev.const hb) ?_
  by_cases hN : 1 ≤ (cs.length : Int) ∧ (cs.length : Int) ≤ 12
  · rw [decide_eq_true hN]
    have c1 : (0 : Int) ≤ (cs.length : Int) := by omega
    have c2 : cs.length ≤ 35184372088832 := by omega
    simp only [Int.toNat_natCast]
    refine Ev.cond (fun _ => ?_) (fun h' => absurd (by trivial) h')
    refine Ev.cond (fun _ => ?_) (fun h' => absurd c1 h')
    exact Ev.cond (fun _ => bad_l0 hc (by omega) hm cs.length 0 [] 0 (by omega) rfl (fun j hj => absurd hj (Nat.not_lt_zero _))) (fun h' => absurd c2 h')
  · rw [decide_eq_false hN]
    exact Ev.cond (fun h' => absurd h' (by decide)) (fun _ => Ev.now _)
/-- The reference's places in the lists, where a station still takes part. -/
def BkA (N : Nat) (now used next : List Int) : Prop := used.length = N ∧ ∀ j : Nat, j < N → 0 ≤ rd now (j : Int) → rd used (j : Int) = rd next (j : Int)
theorem BkA_I {cs : List (List Int)} {now used next : List Int} (H : BkI cs now next) (A : BkA cs.length now used next) : BkI cs now used :=
  ⟨H.ln, A.1, H.hn, fun j hj h => by rw [A.2 j hj h]; exact H.hx j hj h⟩
theorem bkMv_agree {cs : List (List Int)} {now used next : List Int} {act : Int} (H : BkI cs now next) (A : BkA cs.length now used next) {i : Nat} (hi : i < cs.length) (h0 : rd now (i : Int) = 0) :
    (bkMv cs (now, used, act) i).1 = (bkMv cs (now, next, act) i).1 ∧ (bkMv cs (now, used, act) i).2.2 = (bkMv cs (now, next, act) i).2.2 ∧ BkA cs.length (bkMv cs (now, next, act) i).1 (bkMv cs (now, used, act) i).2.1 (bkMv cs (now, next, act) i).2.1 := by
  have e := A.2 i hi (by omega)
  have hin : i < now.length := by rw [H.ln]; exact hi
  have hix : i < next.length := by rw [H.lx]; exact hi
  have hiu : i < used.length := by rw [A.1]; exact hi
  have key : ∀ v : Int, BkA cs.length (now.set i v) (used.set i (rd next (i : Int) + 1)) (next.set i (rd next (i : Int) + 1)) := by
    intro v
    refine ⟨by rw [List.length_set]; exact A.1, fun j hj h => ?_⟩
    rw [rd_setn _ _ _ _ hiu, rd_setn _ _ _ _ hix]
    rw [rd_setn _ _ _ _ hin] at h
    by_cases hij : i = j
    · rw [if_pos hij, if_pos hij]
    · rw [if_neg hij] at h ⊢
      rw [if_neg hij]
      exact A.2 j hj h
  unfold bkMv
  simp only [e]
  by_cases hq : rd next (i : Int) + 1 = ((rd_L1 cs (i : Int)).length : Int)
  · simp only [if_pos hq]
    exact ⟨by trivial, by trivial, key _⟩
  · simp only [if_neg hq]
    exact ⟨by trivial, by trivial, key _⟩
theorem bkFold_agree {cs : List (List Int)} (hc : CsOK cs) : ∀ (zs : List Nat) (now used next : List Int) (act : Int), BkI cs now next → BkA cs.length now used next → zs.Nodup → (∀ i ∈ zs, i < cs.length ∧ rd now (i : Int) = 0) →
    (zs.foldl (bkMv cs) (now, used, act)).1 = (zs.foldl (bkMv cs) (now, next, act)).1 ∧ (zs.foldl (bkMv cs) (now, used, act)).2.2 = (zs.foldl (bkMv cs) (now, next, act)).2.2 ∧
      BkA cs.length (zs.foldl (bkMv cs) (now, next, act)).1 (zs.foldl (bkMv cs) (now, used, act)).2.1 (zs.foldl (bkMv cs) (now, next, act)).2.1 := by
  intro zs
  induction zs with
  | nil => intro now used next act _ A _ _; exact ⟨rfl, rfl, A⟩
  | cons z zs ih =>
    intro now used next act H A hd h
    obtain ⟨h1, h2⟩ := h z List.mem_cons_self
    obtain ⟨a1, a2, a3⟩ := bkMv_agree (act := act) H A h1 h2
    obtain ⟨b1, b2, _⟩ := bkMv_inv hc (s := (now, next, act)) H h1 h2
    obtain ⟨hz, hd2⟩ := List.nodup_cons.1 hd
    have e : bkMv cs (now, used, act) z = ((bkMv cs (now, next, act) z).1, (bkMv cs (now, used, act) z).2.1, (bkMv cs (now, next, act) z).2.2) := by rw [← a1, ← a2]
    have g := ih (bkMv cs (now, next, act) z).1 (bkMv cs (now, used, act) z).2.1 (bkMv cs (now, next, act) z).2.1 (bkMv cs (now, next, act) z).2.2 b1 a3 hd2 (fun i hi => ⟨(h i (List.mem_cons_of_mem _ hi)).1, by rw [b2 i (fun e => hz (e ▸ hi))]; exact (h i (List.mem_cons_of_mem _ hi)).2⟩)
    rw [List.foldl_cons, List.foldl_cons, e]
    exact g
/-- The reference: who sends. -/
theorem sp_l2 {cs : List (List Int)} {N : Nat} {now used done sent : List Int} {left slot : Int} {r : BkR} (hN : N ≤ 12) (hl : now.length = N) (h : Ev (fun k => spec_BackoffRun.l2 k cs (N : Int) now used done left sent slot (natL (bkZ now N)) (N : Int)) r) :
    ∀ d i, i + d = N → Ev (fun k => spec_BackoffRun.l2 k cs (N : Int) now used done left sent slot (natL (bkZ now i)) (i : Int)) r := by
  intro d
  induction d with
  | zero =>
    intro i hi
    obtain rfl : i = N := by omega
    exact h
  | succ d ih =>
    intro i hi
    have h3 := ih (i + 1) (by omega)
    have c1 : (i : Int) < (N : Int) := by omega
    have c2 : (0 : Int) ≤ (i : Int) := by omega
    have c3 : (i : Int) < (now.length : Int) := by omega
    have hz := bkZ_len now i
    have c4 : (natL (bkZ now i)).length < 17592186044416 := by rw [natL_length]; omega
    rw [bkZ_succ] at h3
    apply Ev.succ
    simp only [spec_BackoffRun.l2, w64_succ (show i < 9223372036854775807 by omega)]
    refine Ev.cond (fun _ => ?_) (fun h' => absurd c1 h')
    refine Ev.cond (fun _ => ?_) (fun h' => absurd c2 h')
    refine Ev.cond (fun _ => ?_) (fun h' => absurd c3 h')
    by_cases h0 : rd now (i : Int) = 0
    · rw [if_pos h0] at h3
      have e : natL (bkZ now i ++ [i]) = natL (bkZ now i) ++ [(i : Int)] := by simp [natL]
      rw [e] at h3
      refine Ev.cond (fun _ => ?_) (fun h' => absurd h0 h')
      exact Ev.cond (fun _ => h3) (fun h' => absurd c4 h')
    · rw [if_neg h0] at h3
      exact Ev.cond (fun h' => absurd h' h0) (fun _ => h3)
theorem sp_l3 {cs : List (List Int)} {N : Nat} {now used done sent : List Int} {left slot : Int} {r : BkR} (hN : N ≤ 12) (hl : now.length = N) (hb : ∀ j : Nat, j < N → -1 ≤ rd now (j : Int) ∧ rd now (j : Int) ≤ 20)
    (h : Ev (fun k => spec_BackoffRun.l1 k cs (N : Int) (now.map bkDec) used done left sent (wrap64 (slot + 1))) r) :
    ∀ d i, i + d = N → Ev (fun k => spec_BackoffRun.l3 k cs (N : Int) ((now.take i).map bkDec ++ now.drop i) used done left sent slot (i : Int)) r := by
  intro d
  induction d with
  | zero =>
    intro i hi
    obtain rfl : i = N := by omega
    rw [List.take_of_length_le (by omega), List.drop_eq_nil_of_le (by omega), List.append_nil]
    apply Ev.succ
    simp only [spec_BackoffRun.l3]
    exact Ev.cond (fun h' => absurd h' (Int.lt_irrefl _)) (fun _ => h)
  | succ d ih =>
    intro i hi
    have hi' : i < now.length := by omega
    have h3 := ih (i + 1) (by omega)
    have c1 : (i : Int) < (N : Int) := by omega
    have c2 : (0 : Int) ≤ (i : Int) := by omega
    have hlt : ((now.take i).map bkDec).length = i := by rw [List.length_map, List.length_take]; omega
    have c3 : (i : Int) < (((now.take i).map bkDec ++ now.drop i).length : Int) := by
      rw [List.length_append, hlt, List.length_drop]; omega
    have hrd : rd ((now.take i).map bkDec ++ now.drop i) (i : Int) = rd now (i : Int) := by
      rw [rd_nat, rd_nat, List.getD_eq_getElem?_getD, List.getD_eq_getElem?_getD, List.getElem?_append_right (by omega), hlt, Nat.sub_self, List.getElem?_drop, Nat.add_zero]
    have hbi := hb i (by omega)
    rw [take_rd hi', List.map_append, List.append_assoc] at h3
    simp only [List.map_cons, List.map_nil, List.singleton_append] at h3
    apply Ev.succ
    simp only [spec_BackoffRun.l3, w64_succ (show i < 9223372036854775807 by omega), hrd, Int.toNat_natCast]
    refine Ev.cond (fun _ => ?_) (fun h' => absurd c1 h')
    refine Ev.cond (fun _ => ?_) (fun h' => absurd c2 h')
    refine Ev.cond (fun _ => ?_) (fun h' => absurd c3 h')
    by_cases hp : rd now (i : Int) > 0
    · have e : wrap64 (rd now (i : Int) - 1) = bkDec (rd now (i : Int)) := by
        unfold bkDec
        rw [if_pos hp]
        exact w64 (by omega) (by omega)
      refine Ev.cond (fun _ => ?_) (fun h' => absurd hp h')
      rw [e, drop_rd hi', set_mid _ _ _ _ _ hlt]
      exact h3
    · have e : bkDec (rd now (i : Int)) = rd now (i : Int) := by
        unfold bkDec
        rw [if_neg hp]
      rw [e] at h3
      refine Ev.cond (fun h' => absurd h' hp) (fun _ => ?_)
      rw [drop_rd hi']
      exact h3
theorem sp_l4 {cs : List (List Int)} (hc : CsOK cs) {done sent : List Int} {slot : Int} {zs0 : List Nat} {r : BkR} (h12 : zs0.length ≤ 12) (hnd : zs0.Nodup) {s0 : List Int × List Int × Int}
    (h : Ev (fun k => spec_BackoffRun.l1 k cs (cs.length : Int) (zs0.foldl (bkMv cs) s0).1 (zs0.foldl (bkMv cs) s0).2.1 done (zs0.foldl (bkMv cs) s0).2.2 sent (wrap64 (slot + 1))) r) :
    ∀ (d n : Nat) (s : List Int × List Int × Int), n + d = zs0.length → (zs0.drop n).foldl (bkMv cs) s = zs0.foldl (bkMv cs) s0 → BkI cs s.1 s.2.1 → (∀ i ∈ zs0.drop n, i < cs.length ∧ rd s.1 (i : Int) = 0) → -100000 ≤ s.2.2 - (d : Int) ∧ s.2.2 ≤ 100000 →
      Ev (fun k => spec_BackoffRun.l4 k cs (cs.length : Int) s.1 s.2.1 done s.2.2 sent slot (natL zs0) (n : Int)) r := by
  intro d
  induction d with
  | zero =>
    intro n s hn he H hz ha
    rw [List.drop_eq_nil_of_le (by omega)] at he
    rw [List.foldl_nil] at he
    rw [← he] at h
    have c1 : ¬ (n : Int) < ((natL zs0).length : Int) := by rw [natL_length]; omega
    apply Ev.succ
    simp only [spec_BackoffRun.l4]
    exact Ev.cond (fun h' => absurd h' c1) (fun _ => h)
  | succ d ih =>
    intro n s hn he H hz ha
    have hn' : n < zs0.length := by omega
    have hcons : zs0.drop n = zs0[n] :: zs0.drop (n + 1) := List.drop_eq_getElem_cons hn'
    rw [hcons] at he hz
    rw [List.foldl_cons] at he
    obtain ⟨hi, h0⟩ := hz zs0[n] List.mem_cons_self
    obtain ⟨a1, a2, a3, a4⟩ := bkMv_inv hc H hi h0
    have hndn : (zs0.drop n).Nodup := hnd.sublist (List.drop_sublist n zs0)
    rw [hcons] at hndn
    have hnn := (List.nodup_cons.1 hndn).1
    have h3 := ih (n + 1) (bkMv cs s zs0[n]) (by omega) he a1 (fun i hi => ⟨(hz i (List.mem_cons_of_mem _ hi)).1, by rw [a2 i (fun e => hnn (e ▸ hi))]; exact (hz i (List.mem_cons_of_mem _ hi)).2⟩) (by omega)
    have hrd := natL_rd hn'
    have hlen := natL_length zs0
    generalize zs0[n] = i at *
    have hx := H.hx i hi (by omega)
    have hl := hc.l1 i hi
    have hix : i < s.2.1.length := by rw [H.lx]; exact hi
    have c1 : (n : Int) < ((natL zs0).length : Int) := by omega
    have c2 : (0 : Int) ≤ (n : Int) := by omega
    have c3 : (0 : Int) ≤ (i : Int) := by omega
    have c4 : (i : Int) < (s.2.1.length : Int) := by omega
    have c5 : (i : Int) < (cs.length : Int) := by omega
    have c6 : (i : Int) < (s.1.length : Int) := by rw [H.ln]; omega
    have e1 : wrap64 (rd s.2.1 (i : Int) + 1) = rd s.2.1 (i : Int) + 1 := w64 (by omega) (by omega)
    have e2 : wrap64 (s.2.2 - 1) = s.2.2 - 1 := w64 (by omega) (by omega)
    have e3 : rd (s.2.1.set i (rd s.2.1 (i : Int) + 1)) (i : Int) = rd s.2.1 (i : Int) + 1 := by rw [rd_setn _ _ _ _ hix, if_pos rfl]
    apply Ev.succ
    simp only [spec_BackoffRun.l4, hrd, e1, e2, Option.bind_some, Int.toNat_natCast, e3, w64_succ (show n < 9223372036854775807 by omega)]
    refine Ev.cond (fun _ => ?_) (fun h' => absurd c1 h')
    refine Ev.cond (fun _ => ?_) (fun h' => absurd c2 h')
    refine Ev.cond (fun _ => ?_) (fun h' => absurd c3 h')
    refine Ev.cond (fun _ => ?_) (fun h' => absurd c4 h')
    refine Ev.cond (fun _ => ?_) (fun h' => absurd c5 h')
    unfold bkMv at h3
    by_cases hq : rd s.2.1 (i : Int) + 1 = ((rd_L1 cs (i : Int)).length : Int)
    · rw [if_pos hq] at h3
      refine Ev.cond (fun _ => ?_) (fun h' => absurd hq h')
      exact Ev.cond (fun _ => h3) (fun h' => absurd c6 h')
    · rw [if_neg hq] at h3
      refine Ev.cond (fun h' => absurd h' hq) (fun _ => ?_)
      refine Ev.cond (fun _ => ?_) (fun h' => absurd (show 0 ≤ rd s.2.1 (i : Int) + 1 by omega) h')
      refine Ev.cond (fun _ => ?_) (fun h' => absurd (show rd s.2.1 (i : Int) + 1 < ((rd_L1 cs (i : Int)).length : Int) by omega) h')
      exact Ev.cond (fun _ => h3) (fun h' => absurd c6 h')
theorem sp_l1 {cs : List (List Int)} (hc : CsOK cs) : ∀ (f : Nat) (now used next done : List Int) (act : Int) (slots : List Int), slots.length + f = 300 → BkI cs now next → BkA cs.length now used next → done.length = cs.length → -12 * (slots.length : Int) ≤ act ∧ act ≤ 12 →
    Ev (fun k => spec_BackoffRun.l1 k cs (cs.length : Int) now used done act slots (slots.length : Int)) ((bkRun cs f now next done act slots).1, (bkRun cs f now next done act slots).2, true) := by
  have stop : ∀ (now used done : List Int) (act : Int) (slots : List Int), ¬ (slots.length < 300 ∧ act > 0) → Ev (fun k => spec_BackoffRun.l1 k cs (cs.length : Int) now used done act slots (slots.length : Int)) (slots, done, true) := by
    intro now used done act slots h
    have fin : Ev (fun k => spec_BackoffRun.j2 k cs (cs.length : Int) now used done act slots (slots.length : Int) false) (slots, done, true) := by
      apply Ev.succ
      simp only [spec_BackoffRun.j2]
      exact Ev.cond (fun h' => absurd h' (by decide)) (fun _ => Ev.now _)
    apply Ev.succ
    simp only [spec_BackoffRun.l1]
    refine Ev.cond (fun h1 => ?_) (fun _ => fin)
    rw [decide_eq_false (fun h2 => h ⟨by omega, h2⟩)]
    exact fin
  intro f
  induction f with
  | zero =>
    intro now used next done act slots hf H A hd ha
    exact stop now used done act slots (by omega)
  | succ f ih =>
    intro now used next done act slots hf H A hd ha
    have hs300 : slots.length < 300 := Nat.lt_of_lt_of_le (Nat.lt_add_of_pos_right (Nat.succ_pos f)) (Nat.le_of_eq hf)
    unfold bkRun
    by_cases hp : act > 0
    · simp only [if_pos hp]
      obtain ⟨a1, a2, a3, a4, a5⟩ := bkStep_inv hc (done := done) (act := act) (t := (slots.length : Int)) H
      have hl1 : (slots ++ [((bkZ now cs.length).length : Int)]).length = slots.length + 1 := by rw [List.length_append, List.length_singleton]
      have h3 := fun used' => ih (bkStep cs now next done act (slots.length : Int)).1 used' (bkStep cs now next done act (slots.length : Int)).2.1 (bkStep cs now next done act (slots.length : Int)).2.2.1 (bkStep cs now next done act (slots.length : Int)).2.2.2 (slots ++ [((bkZ now cs.length).length : Int)]) (by rw [hl1]; omega) a1
      have h3 := fun used' h' => h3 used' h' (by rw [a5]; exact hd) (by rw [hl1]; omega)
      obtain ⟨rr, hrr⟩ : ∃ rr, bkRun cs f (bkStep cs now next done act (slots.length : Int)).1 (bkStep cs now next done act (slots.length : Int)).2.1 (bkStep cs now next done act (slots.length : Int)).2.2.1 (bkStep cs now next done act (slots.length : Int)).2.2.2 (slots ++ [((bkZ now cs.length).length : Int)]) = rr := ⟨_, rfl⟩
      rw [hrr] at h3 ⊢
      clear hrr
      have hm : ∀ i ∈ bkZ now cs.length, i < cs.length ∧ rd now (i : Int) = 0 := fun i h => bkZ_mem h
      have hnd := bkZ_nodup now cs.length
      have hzl := bkZ_len now cs.length
      have h12 := hc.n2
      have hln := H.ln
      have hws : wrap64 ((slots.length : Int) + 1) = ((slots.length + 1 : Nat) : Int) := w64_succ (by omega)
      have c1 : ¬ ((cs.length : Int) < (cs.length : Int)) := Int.lt_irrefl _
      have c2 : slots.length < 17592186044416 := Nat.lt_trans hs300 (by decide)
      rw [hl1] at h3
      have key : Ev (fun k => spec_BackoffRun.l2 k cs (cs.length : Int) now used done act slots (slots.length : Int) (natL (bkZ now cs.length)) (cs.length : Int)) (rr.1, rr.2, true) := by
        unfold bkStep at h3
        generalize bkZ now cs.length = zs at hm hnd hzl h3 ⊢
        match zs, hm, hnd, hzl, h3 with
        | [], hm, hnd, hzl, h3 =>
          simp only at h3
          have h4 := h3 used ⟨A.1, fun j hj h => A.2 j hj (by rw [rd_map_dec] at h; unfold bkDec at h; split at h <;> omega)⟩
          rw [← hws] at h4
          have h5 := sp_l3 (used := used) (done := done) (sent := slots ++ [((([] : List Nat).length : Nat) : Int)]) (left := act) (slot := (slots.length : Int)) h12 hln H.hn h4 cs.length 0 (by omega)
          apply Ev.succ
          simp only [spec_BackoffRun.l2]
          refine Ev.cond (fun h' => absurd h' c1) (fun _ => ?_)
          refine Ev.cond (fun _ => ?_) (fun h' => absurd c2 h')
          refine Ev.bind (Ev.const rfl) ?_
          exact Ev.cond (fun _ => h5) (fun h' => absurd rfl h')
        | [i], hm, hnd, hzl, h3 =>
          obtain ⟨h1, h2⟩ := hm i List.mem_cons_self
          simp only at h3
          have hin : i < now.length := by rw [hln]; exact h1
          have hix : i < next.length := by rw [H.lx]; exact h1
          have h4 := h3 used ⟨A.1, fun j hj h => by
            rw [rd_setn _ _ _ _ hin] at h
            rw [rd_setn _ _ _ _ hix]
            by_cases hij : i = j
            · rw [if_pos hij] at h; omega
            · rw [if_neg hij] at h ⊢
              exact A.2 j hj h⟩
          rw [← hws] at h4
          have e2 : wrap64 (act - 1) = act - 1 := w64 (by omega) (by omega)
          have e3 : rd (natL [i]) 0 = (i : Int) := rfl
          have e4 : ((natL [i]).length : Int) = 1 := rfl
          have c3 : (0 : Int) ≤ (i : Int) := by omega
          have c4 : (i : Int) < (done.length : Int) := by rw [hd]; omega
          have c5 : (i : Int) < (now.length : Int) := by omega
          apply Ev.succ
          simp only [spec_BackoffRun.l2, e2, e3, e4, Int.toNat_natCast]
          refine Ev.cond (fun h' => absurd h' c1) (fun _ => ?_)
          refine Ev.cond (fun _ => ?_) (fun h' => absurd c2 h')
          refine Ev.bind (Ev.const rfl) ?_
          refine Ev.cond (fun h' => absurd h' (by decide)) (fun _ => ?_)
          refine Ev.cond (fun _ => ?_) (fun h' => absurd (by trivial) h')
          refine Ev.cond (fun _ => ?_) (fun h' => absurd (by decide) h')
          refine Ev.cond (fun _ => ?_) (fun h' => absurd c3 h')
          refine Ev.cond (fun _ => ?_) (fun h' => absurd c4 h')
          exact Ev.cond (fun _ => h4) (fun h' => absurd c5 h')
        | i :: i2 :: zs, hm, hnd, hzl, h3 =>
          have hl2 : ((natL (i :: i2 :: zs)).length : Int) = (zs.length : Int) + 2 := by rw [natL_length]; simp only [List.length_cons]; omega
          have hlz : (i :: i2 :: zs).length = zs.length + 2 := rfl
          obtain ⟨b1, b2, b3⟩ := bkFold_agree hc (i :: i2 :: zs) now used next act H A hnd hm
          simp only at h3
          have h4 := h3 _ b3
          rw [← hws, ← b1, ← b2] at h4
          have h5 := sp_l4 hc (done := done) (sent := slots ++ [(((i :: i2 :: zs).length : Nat) : Int)]) (slot := (slots.length : Int)) (zs0 := i :: i2 :: zs) (s0 := (now, used, act)) (by omega) hnd h4 (i :: i2 :: zs).length 0 (now, used, act) (by omega) rfl (BkA_I H A) (by rw [List.drop_zero]; exact hm) (by rw [hlz]; dsimp only; omega)
          have d0 : ¬ ((natL (i :: i2 :: zs)).length : Int) = 0 := by omega
          have d1 : ¬ ((natL (i :: i2 :: zs)).length : Int) = 1 := by omega
          apply Ev.succ
          simp only [spec_BackoffRun.l2]
          refine Ev.cond (fun h' => absurd h' c1) (fun _ => ?_)
          refine Ev.cond (fun _ => ?_) (fun h' => absurd c2 h')
          refine Ev.bind (Ev.const rfl) ?_
          refine Ev.cond (fun h' => absurd h' d0) (fun _ => ?_)
          refine Ev.cond (fun h' => absurd h' d1) (fun _ => ?_)
          rw [natL_length]
          exact h5
      have h6 := sp_l2 (used := used) (done := done) (sent := slots) (left := act) (slot := (slots.length : Int)) h12 hln key cs.length 0 (by omega)
      apply Ev.succ
      simp only [spec_BackoffRun.l1]
      refine Ev.cond (fun _ => ?_) (fun h' => absurd (Int.ofNat_lt.2 hs300) h')
      rw [decide_eq_true hp]
      apply Ev.succ
      simp only [spec_BackoffRun.j2]
      exact Ev.cond (fun _ => h6) (fun h' => absurd (by trivial) h')
    · simp only [if_neg hp]
      exact stop now used done act slots (fun h => hp h.2)
theorem sp_l0 {cs : List (List Int)} (hc : CsOK cs) {r : BkR} {used : List Int} (h : Ev (fun k => spec_BackoffRun.l1 k cs (cs.length : Int) (firsts cs) used (List.replicate cs.length (-1)) (cs.length : Int) [] 0) r) :
    ∀ d i, i + d = cs.length → Ev (fun k => spec_BackoffRun.l0 k cs (cs.length : Int) ((firsts cs).take i ++ List.replicate d 0) used (List.replicate i (-1) ++ List.replicate d 0) (cs.length : Int) (i : Int)) r := by
  have hN2 := hc.n2
  have hfl : (firsts cs).length = cs.length := by unfold firsts; rw [List.length_map]
  intro d
  induction d with
  | zero =>
    intro i hi
    obtain rfl : i = cs.length := by omega
    rw [List.take_of_length_le (by omega), List.replicate_zero, List.append_nil, List.append_nil]
    apply Ev.succ
    simp only [spec_BackoffRun.l0]
    exact Ev.cond (fun h' => absurd h' (Int.lt_irrefl _)) (fun _ => h)
  | succ d ih =>
    intro i hi
    have hi' : i < cs.length := by omega
    have h3 := ih (i + 1) (by omega)
    obtain ⟨hl1, hl2⟩ := hc.l1 i hi'
    have c1 : (i : Int) < (cs.length : Int) := by omega
    have c2 : (0 : Int) ≤ (i : Int) := by omega
    have c5 : 0 < ((rd_L1 cs (i : Int)).length : Int) := by omega
    have hla : ((firsts cs).take i).length = i := by rw [List.length_take]; omega
    have hlb : (List.replicate i (-1 : Int)).length = i := List.length_replicate
    have c6 : (i : Int) < (((firsts cs).take i ++ List.replicate (d + 1) 0).length : Int) := by rw [List.length_append, hla, List.length_replicate]; omega
    have c7 : (i : Int) < ((List.replicate i (-1 : Int) ++ List.replicate (d + 1) 0).length : Int) := by rw [List.length_append, hlb, List.length_replicate]; omega
    have e1 : ((firsts cs).take i ++ List.replicate (d + 1) 0).set i (rd (rd_L1 cs (i : Int)) 0) = (firsts cs).take (i + 1) ++ List.replicate d 0 := by
      rw [List.replicate_succ, set_mid _ _ _ _ _ hla, take_rd (by omega), rd_firsts]
      simp
    have e2 : (List.replicate i (-1 : Int) ++ List.replicate (d + 1) 0).set i (-1) = List.replicate (i + 1) (-1) ++ List.replicate d 0 := by
      rw [List.replicate_succ (n := d), set_mid _ _ _ _ _ hlb, List.replicate_succ' (n := i)]
      simp
    apply Ev.succ
    simp only [spec_BackoffRun.l0, Int.toNat_natCast, e1, e2, w64_succ (show i < 9223372036854775807 by omega)]
    refine Ev.cond (fun _ => ?_) (fun h' => absurd c1 h')
    refine Ev.cond (fun _ => ?_) (fun h' => absurd c2 h')
    refine Ev.cond (fun _ => ?_) (fun h' => absurd c1 h')
    refine Ev.cond (fun _ => ?_) (fun h' => absurd c5 h')
    refine Ev.cond (fun _ => ?_) (fun h' => absurd c6 h')
    exact Ev.cond (fun _ => h3) (fun h' => absurd c7 h')
theorem bkRun_len {cs : List (List Int)} (hc : CsOK cs) : ∀ (f : Nat) (now next done : List Int) (act : Int) (slots : List Int), slots.length + f = 300 → BkI cs now next → done.length = cs.length → (bkRun cs f now next done act slots).1.length ≤ 300 ∧ (bkRun cs f now next done act slots).2.length = cs.length := by
  intro f
  induction f with
  | zero => intro now next done act slots hf _ hd; unfold bkRun; exact ⟨by dsimp only; omega, hd⟩
  | succ f ih =>
    intro now next done act slots hf H hd
    obtain ⟨a1, a2, a3, a4, a5⟩ := bkStep_inv hc (done := done) (act := act) (t := (slots.length : Int)) H
    unfold bkRun
    by_cases hp : act > 0
    · simp only [if_pos hp]
      exact ih _ _ _ _ _ (by rw [List.length_append, List.length_singleton]; omega) a1 (by rw [a5]; exact hd)
    · simp only [if_neg hp]
      exact ⟨by omega, hd⟩
theorem BR_ev (cs : List (List Int)) (hn : cs.length ≤ 1048576) (hm : ∀ j : Nat, j < cs.length → (rd_L1 cs (j : Int)).length ≤ 1099511627776) : ∃ r : BkR, r.1.length ≤ 300 ∧ r.2.1.length ≤ 12 ∧ Ev (fun k => spec_BackoffRun.f k cs) r ∧ Ev (fun k => impl_BackoffRun.f k cs) r := by
  obtain ⟨g1, g2⟩ := cnt_l0 (by omega) hm cs.length 0 (by omega) (fun j hj => absurd hj (Nat.not_lt_zero _))
  by_cases hc : CsOK cs
  · have h12 := hc.n2
    have h1 := hc.n1
    have hI := bkStart hc
    obtain ⟨l1, l2⟩ := bkRun_len hc 300 (firsts cs) (List.replicate cs.length 0) (List.replicate cs.length (-1)) (cs.length : Int) [] rfl hI List.length_replicate
    refine ⟨((bkAll cs).1, (bkAll cs).2, true), l1, by show (bkAll cs).2.length ≤ 12; have : (bkAll cs).2.length = cs.length := l2; omega, ?_, BackoffRun_ev hc⟩
    have h2 := sp_l1 hc 300 (firsts cs) (List.replicate cs.length 0) (List.replicate cs.length 0) (List.replicate cs.length (-1)) (cs.length : Int) [] rfl hI ⟨List.length_replicate, fun _ _ _ => rfl⟩ List.length_replicate (by simp; omega)
    have h3 := sp_l0 hc h2 cs.length 0 (by omega)
    have c1 : (0 : Int) ≤ (cs.length : Int) := by omega
    have c2 : cs.length ≤ 35184372088832 := by omega
    unfold spec_BackoffRun.f
    refine Ev.bind (g1 hc) ?_
    simp only [Int.toNat_natCast]
    refine Ev.cond (fun _ => ?_) (fun h' => absurd (by trivial) h')
    refine Ev.cond (fun _ => ?_) (fun h' => absurd c1 h')
    exact Ev.cond (fun _ => h3) (fun h' => absurd c2 h')
  · refine ⟨(([] : List Int), ([] : List Int), false), by simp, by simp, ?_, impl_bad hc hm⟩
    unfold spec_BackoffRun.f
    refine Ev.bind (g2 hc) ?_
    exact Ev.cond (fun h' => absurd h' (by decide)) (fun _ => Ev.now _)
theorem FnExactBackoffRun : laws_FnExactBackoffRun.Pure := by
  intro xs h0 hx
  refine Ev.rounds ?_
  unfold laws_FnExactBackoffRun.f
  obtain ⟨s, s1, s2⟩ := szSS_ev xs h0 hx
  refine Ev.bind s1 ?_
  refine Ev.cond (fun _ => Ev.now _) (fun hs => ?_)
  obtain ⟨hn, hsz⟩ : xs.length ≤ 1048576 ∧ szR xs ≤ 1048576 := by
    rcases s2 with s2 | s2
    · exact absurd s2 hs
    · exact s2
  have hel : ∀ x ∈ xs, x.length ≤ 1099511627776 := fun x hx => by have := szR_mem hx; omega
  obtain ⟨r, r1, r2, r3, r4⟩ := BR_ev xs hn (fun j hj => by rw [LL_get hj]; exact hel _ (List.getElem_mem hj))
  refine Ev.bind (toInt64SS_ev xs (by omega) hel (by omega)) (Ev.bind r3 (Ev.bind r4 (Ev.bind (eqInt64S_same r.1 (by omega)) (Ev.bind (eqInt64S_same r.2.1 (by omega)) (Ev.bind (eqSS_same xs (by omega) hel) ?_)))))
  refine Ev.bind (markSS_ev xs 1 (by omega) (by omega) (by omega)) (Ev.bind (markInt64S_ev r.1 1 (by omega) (by omega) (by omega)) (Ev.bind (markInt64S_ev r.2.1 _ (by omega) (by omega) (by omega)) ?_))
  refine Ev.bind (heldInt64S_ev 1 r.1.length (by omega) (by omega) (by omega)) (Ev.bind (heldInt64S_ev _ r.2.1.length (by omega) (by omega) (by omega)) ?_)
  exact Ev.cond (fun _ => Ev.now _) (fun h' => absurd ⟨rfl, rfl, rfl, rfl, by dsimp only; omega, by omega, by omega, rfl⟩ h')

end Go.Proofs.Ytohdepanfnaddaa.Pure
