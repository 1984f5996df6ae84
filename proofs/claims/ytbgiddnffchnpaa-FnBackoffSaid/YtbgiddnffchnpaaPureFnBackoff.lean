/- For all bytes, of the stations that count down each succeeds in a slot in which one alone sends. -/
import Derived.Test.YtbgiddnffchnpaaQFnBackoffx5
import Derived.Test.YtbgiddnffchnpaaBase
namespace Go.Proofs.Ytbgiddnffchnpaa.Pure
open Go.RowKit Go.Proofs.Ytbgiddnffchnpaa.QFnBackoff Go.Proofs.Ytbgiddnffchnpaa.Base Go.Proofs.YtbgiddnffchnpaaW.PrintWords Go.Proofs.YtbgiddnffchnpaaW.PrintLast Go.Proofs.YtbgiddnffchnpaaW.PrintMore
set_option linter.unusedVariables false
set_option linter.unusedSimpArgs false

/-! within -/
theorem within_eq (a b c : Int) : impl_within.f a b c = some (decide (b ≤ a ∧ a ≤ c)) := by
  unfold impl_within.f
  by_cases h : b ≤ a
  · simp [h, ge_iff_le]
  · simp [h, ge_iff_le]

/-! areIn -/
theorem areIn_l0 (lo hi : Int) (xs : List Int) (hn : xs.length ≤ 1099511627776) : ∀ d n, n + d = xs.length → Ev (fun k => impl_areIn.l0 k lo hi xs (xs.length : Int) (n : Int)) (inAll lo hi (xs.drop n)) := by
  intro d
  induction d with
  | zero =>
    intro n h
    apply Ev.succ
    have h1 : ¬ ((n : Int) < (xs.length : Int)) := by omega
    have h2 : xs.drop n = [] := List.drop_eq_nil_of_le (by omega)
    simp only [impl_areIn.l0, h1, if_false, h2]
    exact Ev.now true
  | succ d ih =>
    intro n h
    apply Ev.succ
    have h1 : (n : Int) < (xs.length : Int) := by omega
    have h2 : (0 : Int) ≤ (n : Int) := by omega
    have h3 := ih (n + 1) (by omega)
    rw [drop_rd (show n < xs.length by omega), inAll_cons]
    simp only [impl_areIn.l0, h1, h2, if_true, within_eq, Option.bind_some, w64_succ (show n < 9223372036854775807 by omega)]
    by_cases hc : lo ≤ rd xs (n : Int) ∧ rd xs (n : Int) ≤ hi
    · simp only [hc, decide_true, if_true, Bool.true_and, and_self]; exact h3
    · simp only [hc, decide_false, Bool.false_and, Bool.false_eq_true, if_false]; exact Ev.now false
theorem areIn_ev (lo hi : Int) (xs : List Int) (hn : xs.length ≤ 1099511627776) : Ev (fun k => impl_areIn.f k xs lo hi) (inAll lo hi xs) := by
  have h := areIn_l0 lo hi xs hn xs.length 0 (by omega)
  exact h

/-! rdset -/
theorem rd_set_same {xs : List Int} {s v : Int} (h0 : 0 ≤ s) (h : s < (xs.length : Int)) : rd (xs.set s.toNat v) s = v := by
  unfold rd
  rw [List.getD_eq_getElem?_getD, List.getElem?_set_self (by omega)]; rfl
theorem rd_set_ne {xs : List Int} {s t v : Int} (h0 : 0 ≤ s) (h1 : 0 ≤ t) (h : s ≠ t) : rd (xs.set s.toNat v) t = rd xs t := by
  unfold rd
  rw [List.getD_eq_getElem?_getD, List.getD_eq_getElem?_getD, List.getElem?_set_ne (by omega)]

/-! sumL -/
def sumL : List Int → Int
  | [] => 0
  | x :: r => x + sumL r
theorem rd_zero (x : Int) (r : List Int) : rd (x :: r) ((0 : Nat) : Int) = x := rfl
theorem rd_succ (x : Int) (r : List Int) (i : Nat) : rd (x :: r) ((i + 1 : Nat) : Int) = rd r (i : Int) := by
  rw [rd_nat, rd_nat]; rfl
theorem sumL_set (l : List Int) : ∀ (i : Nat) (v : Int), i < l.length → sumL (l.set i v) = sumL l - rd l (i : Int) + v := by
  induction l with
  | nil => intro i v h; exact absurd h (by simp)
  | cons x l ih =>
    intro i v h
    cases i with
    | zero => rw [rd_zero]; simp only [List.set_cons_zero, sumL]; omega
    | succ i =>
      have h2 := ih i v (by simpa using h)
      rw [rd_succ]
      simp only [List.set_cons_succ, sumL]; omega
theorem sumL_nonneg (l : List Int) : (∀ x ∈ l, 0 ≤ x) → 0 ≤ sumL l := by
  induction l with
  | nil => intro _; exact Int.le_refl _
  | cons x l ih =>
    intro h
    have h1 := h x List.mem_cons_self
    have h2 := ih (fun y hy => h y (List.mem_cons_of_mem _ hy))
    simp only [sumL]; omega
theorem sumL_ge (l : List Int) : (∀ x ∈ l, 0 ≤ x) → ∀ x ∈ l, x ≤ sumL l := by
  induction l with
  | nil => intro _ x hx; exact absurd hx (by simp)
  | cons y l ih =>
    intro h x hx
    have h1 := h y List.mem_cons_self
    have h3 := fun z hz => h z (List.mem_cons_of_mem _ hz)
    have h2 := sumL_nonneg l h3
    simp only [sumL]
    rcases List.mem_cons.1 hx with rfl | hx
    · omega
    · have := ih h3 x hx; omega
theorem sumL_le (l : List Int) (b : Int) : (∀ x ∈ l, x ≤ b) → sumL l ≤ b * (l.length : Int) := by
  induction l with
  | nil => intro _; simp [sumL]
  | cons y l ih =>
    intro h
    have h1 := h y List.mem_cons_self
    have h2 := ih (fun z hz => h z (List.mem_cons_of_mem _ hz))
    have e : b * ((y :: l).length : Int) = b * (l.length : Int) + b := by
      rw [List.length_cons, show ((l.length + 1 : Nat) : Int) = (l.length : Int) + 1 by omega, Int.mul_add, Int.mul_one]
    rw [e]
    simp only [sumL]; omega
theorem rd_setn (l : List Int) (i j : Nat) (v : Int) (hi : i < l.length) : rd (l.set i v) (j : Int) = if i = j then v else rd l (j : Int) := by
  by_cases h : i = j
  · subst h
    rw [if_pos rfl]
    have := rd_set_same (xs := l) (s := (i : Int)) (v := v) (by omega) (by omega)
    rwa [Int.toNat_natCast] at this
  · rw [if_neg h]
    have := rd_set_ne (xs := l) (s := (i : Int)) (t := (j : Int)) (v := v) (by omega) (by omega) (by omega)
    rwa [Int.toNat_natCast] at this
theorem mem_rd {l : List Int} {x : Int} (h : x ∈ l) : ∃ j : Nat, j < l.length ∧ rd l (j : Int) = x := by
  obtain ⟨j, hj, e⟩ := List.getElem_of_mem h
  exact ⟨j, hj, by rw [rd_get hj, e]⟩
theorem all_rd {l : List Int} {P : Int → Prop} (h : ∀ j : Nat, j < l.length → P (rd l (j : Int))) : ∀ x ∈ l, P x := by
  intro x hx
  obtain ⟨j, hj, e⟩ := mem_rd hx
  rw [← e]; exact h j hj

/-! BackoffI -/
/-- The stations whose counter is 0, among the first ones. -/
def bkZ (now : List Int) (i : Nat) : List Nat := (List.range i).filter fun j => decide (rd now (j : Int) = 0)
theorem bkZ_succ (now : List Int) (i : Nat) : bkZ now (i + 1) = if rd now (i : Int) = 0 then bkZ now i ++ [i] else bkZ now i := by
  unfold bkZ
  rw [List.range_succ, List.filter_append]
  by_cases h : rd now (i : Int) = 0
  · simp [h]
  · simp [h]
theorem bkZ_mem {now : List Int} {N i : Nat} (h : i ∈ bkZ now N) : i < N ∧ rd now (i : Int) = 0 := by
  unfold bkZ at h
  simp only [List.mem_filter, List.mem_range, decide_eq_true_eq] at h
  exact h
theorem bkZ_nodup (now : List Int) (N : Nat) : (bkZ now N).Nodup := List.nodup_range.sublist List.filter_sublist
theorem bkZ_len (now : List Int) (N : Nat) : (bkZ now N).length ≤ N := by
  have := List.length_filter_le (fun j : Nat => decide (rd now (j : Int) = 0)) (List.range N)
  rw [List.length_range] at this
  exact this
def natL (xs : List Nat) : List Int := xs.map fun j : Nat => (j : Int)
theorem natL_length (xs : List Nat) : (natL xs).length = xs.length := by unfold natL; rw [List.length_map]
theorem natL_rd {xs : List Nat} {n : Nat} (h : n < xs.length) : rd (natL xs) (n : Int) = (xs[n] : Int) := by
  rw [rd_get (by rw [natL_length]; exact h)]
  simp [natL]
/-- One slot without a sender. -/
def bkDec (x : Int) : Int := if x > 0 then x - 1 else x
/-- One sender of several. -/
def bkMv (cs : List (List Int)) (s : List Int × List Int × Int) (i : Nat) : List Int × List Int × Int :=
  if rd s.2.1 (i : Int) + 1 = ((rd_L2 cs (i : Int)).length : Int) then (s.1.set i (-1), s.2.1.set i (rd s.2.1 (i : Int) + 1), s.2.2 - 1)
  else (s.1.set i (rd (rd_L2 cs (i : Int)) (rd s.2.1 (i : Int) + 1)), s.2.1.set i (rd s.2.1 (i : Int) + 1), s.2.2)
/-- One slot: counters, places in the lists, answers, how many take part. -/
def bkStep (cs : List (List Int)) (now next done : List Int) (act t : Int) : List Int × List Int × List Int × Int :=
  match bkZ now cs.length with
  | [] => (now.map bkDec, next, done, act)
  | [i] => (now.set i (-1), next.set i (rd next (i : Int) + 1), done.set i t, act - 1)
  | i :: j :: zs => ((List.foldl (bkMv cs) (now, next, act) (i :: j :: zs)).1, (List.foldl (bkMv cs) (now, next, act) (i :: j :: zs)).2.1, done, (List.foldl (bkMv cs) (now, next, act) (i :: j :: zs)).2.2)
def bkRun (cs : List (List Int)) : Nat → List Int → List Int → List Int → Int → List Int → List Int × List Int
  | 0, _, _, done, _, slots => (slots, done)
  | f + 1, now, next, done, act, slots =>
    if act > 0 then bkRun cs f (bkStep cs now next done act (slots.length : Int)).1 (bkStep cs now next done act (slots.length : Int)).2.1 (bkStep cs now next done act (slots.length : Int)).2.2.1 (bkStep cs now next done act (slots.length : Int)).2.2.2 (slots ++ [((bkZ now cs.length).length : Int)])
    else (slots, done)
/-- Lists of counters that are taken. -/
structure CsOK (cs : List (List Int)) : Prop where
  n1 : 1 ≤ cs.length
  n2 : cs.length ≤ 12
  l1 : ∀ j : Nat, j < cs.length → 1 ≤ (rd_L2 cs (j : Int)).length ∧ (rd_L2 cs (j : Int)).length ≤ 40
  hv : ∀ j : Nat, j < cs.length → inAll 0 20 (rd_L2 cs (j : Int)) = true
structure BkI (cs : List (List Int)) (now next : List Int) : Prop where
  ln : now.length = cs.length
  lx : next.length = cs.length
  hn : ∀ j : Nat, j < cs.length → -1 ≤ rd now (j : Int) ∧ rd now (j : Int) ≤ 20
  hx : ∀ j : Nat, j < cs.length → 0 ≤ rd now (j : Int) → 0 ≤ rd next (j : Int) ∧ rd next (j : Int) < ((rd_L2 cs (j : Int)).length : Int)
theorem bkMv_inv {cs : List (List Int)} (hc : CsOK cs) {s : List Int × List Int × Int} (H : BkI cs s.1 s.2.1) {i : Nat} (hi : i < cs.length) (h0 : rd s.1 (i : Int) = 0) :
    BkI cs (bkMv cs s i).1 (bkMv cs s i).2.1 ∧ (∀ j : Nat, j ≠ i → rd (bkMv cs s i).1 (j : Int) = rd s.1 (j : Int)) ∧ s.2.2 - 1 ≤ (bkMv cs s i).2.2 ∧ (bkMv cs s i).2.2 ≤ s.2.2 := by
  obtain ⟨now, next, act⟩ := s
  simp only at H h0 ⊢
  have hx := H.hx i hi (by omega)
  have hin : i < now.length := by rw [H.ln]; exact hi
  have hix : i < next.length := by rw [H.lx]; exact hi
  unfold bkMv
  simp only
  split
  · refine ⟨⟨by rw [List.length_set]; exact H.ln, by rw [List.length_set]; exact H.lx, fun j hj => ?_, fun j hj h => ?_⟩, fun j hj => ?_, by dsimp only; omega, by dsimp only; omega⟩
    · rw [rd_setn _ _ _ _ hin]
      split
      · omega
      · exact H.hn j hj
    · rw [rd_setn _ _ _ _ hin] at h
      split at h
      · omega
      · rename_i hne
        rw [rd_setn _ _ _ _ hix, if_neg hne]
        exact H.hx j hj h
    · rw [rd_setn _ _ _ _ hin, if_neg (fun e => hj e.symm)]
  · rename_i hne
    obtain ⟨m, hm⟩ := Int.eq_ofNat_of_zero_le (show 0 ≤ rd next (i : Int) + 1 by omega)
    have hb := inAll_mem (hc.hv i hi) _ (rd_mem (xs := rd_L2 cs (i : Int)) (n := m) (by omega))
    rw [hm] at hne ⊢
    refine ⟨⟨by rw [List.length_set]; exact H.ln, by rw [List.length_set]; exact H.lx, fun j hj => ?_, fun j hj h => ?_⟩, fun j hj => ?_, by dsimp only; omega, by dsimp only; omega⟩
    · rw [rd_setn _ _ _ _ hin]
      split
      · omega
      · exact H.hn j hj
    · rw [rd_setn _ _ _ _ hin] at h
      rw [rd_setn _ _ _ _ hix]
      split at h
      · rename_i e
        subst e
        rw [if_pos rfl]
        omega
      · rename_i hne
        rw [if_neg hne]
        exact H.hx j hj h
    · rw [rd_setn _ _ _ _ hin, if_neg (fun e => hj e.symm)]
theorem bkFold_inv {cs : List (List Int)} (hc : CsOK cs) : ∀ (zs : List Nat) (s : List Int × List Int × Int), BkI cs s.1 s.2.1 → zs.Nodup → (∀ i ∈ zs, i < cs.length ∧ rd s.1 (i : Int) = 0) →
    BkI cs (zs.foldl (bkMv cs) s).1 (zs.foldl (bkMv cs) s).2.1 ∧ (∀ j : Nat, j ∉ zs → rd (zs.foldl (bkMv cs) s).1 (j : Int) = rd s.1 (j : Int)) ∧ s.2.2 - (zs.length : Int) ≤ (zs.foldl (bkMv cs) s).2.2 ∧ (zs.foldl (bkMv cs) s).2.2 ≤ s.2.2 := by
  intro zs
  induction zs with
  | nil => intro s H _ _; exact ⟨H, fun _ _ => rfl, by simp, Int.le_refl _⟩
  | cons z zs ih =>
    intro s H hd h
    obtain ⟨h1, h2⟩ := h z List.mem_cons_self
    obtain ⟨a1, a2, a3, a4⟩ := bkMv_inv hc H h1 h2
    obtain ⟨hz, hd2⟩ := List.nodup_cons.1 hd
    obtain ⟨b1, b2, b3, b4⟩ := ih (bkMv cs s z) a1 hd2 (fun i hi => ⟨(h i (List.mem_cons_of_mem _ hi)).1, by rw [a2 i (fun e => hz (e ▸ hi))]; exact (h i (List.mem_cons_of_mem _ hi)).2⟩)
    rw [List.foldl_cons]
    refine ⟨b1, fun j hj => ?_, ?_, by omega⟩
    · rw [b2 j (fun h' => hj (List.mem_cons_of_mem _ h')), a2 j (fun e => hj (e ▸ List.mem_cons_self))]
    · rw [List.length_cons]; omega
theorem rd_map_dec (now : List Int) (j : Nat) : rd (now.map bkDec) (j : Int) = bkDec (rd now (j : Int)) := by
  rw [rd_nat, rd_nat, List.getD_eq_getElem?_getD, List.getD_eq_getElem?_getD, List.getElem?_map]
  cases now[j]? <;> rfl
/-- What a slot leaves. -/
theorem bkStep_inv {cs : List (List Int)} (hc : CsOK cs) {now next done : List Int} {act t : Int} (H : BkI cs now next) :
    BkI cs (bkStep cs now next done act t).1 (bkStep cs now next done act t).2.1 ∧ (∀ j : Nat, j < cs.length → 0 ≤ rd (bkStep cs now next done act t).1 (j : Int) → 0 ≤ rd now (j : Int)) ∧
      act - 12 ≤ (bkStep cs now next done act t).2.2.2 ∧ (bkStep cs now next done act t).2.2.2 ≤ act ∧ (bkStep cs now next done act t).2.2.1.length = done.length := by
  have hm : ∀ i ∈ bkZ now cs.length, i < cs.length ∧ rd now (i : Int) = 0 := fun i h => bkZ_mem h
  have hd := bkZ_nodup now cs.length
  have hl := bkZ_len now cs.length
  have h12 := hc.n2
  unfold bkStep
  generalize bkZ now cs.length = zs at hm hd hl ⊢
  match zs, hm, hd, hl with
  | [], hm, hd, hl =>
    simp only
    refine ⟨⟨by rw [List.length_map]; exact H.ln, H.lx, fun j hj => ?_, fun j hj h => ?_⟩, fun j hj h => ?_, by omega, Int.le_refl _, by first | trivial | rfl⟩
    · rw [rd_map_dec]
      have := H.hn j hj
      unfold bkDec
      split <;> omega
    · rw [rd_map_dec] at h
      exact H.hx j hj (by unfold bkDec at h; split at h <;> omega)
    · rw [rd_map_dec] at h
      unfold bkDec at h; split at h <;> omega
  | [i], hm, hd, hl =>
    obtain ⟨h1, h2⟩ := hm i List.mem_cons_self
    have hin : i < now.length := by rw [H.ln]; exact h1
    have hix : i < next.length := by rw [H.lx]; exact h1
    simp only
    refine ⟨⟨by rw [List.length_set]; exact H.ln, by rw [List.length_set]; exact H.lx, fun j hj => ?_, fun j hj h => ?_⟩, fun j hj h => ?_, by omega, by omega, by rw [List.length_set]⟩
    · rw [rd_setn _ _ _ _ hin]
      split
      · omega
      · exact H.hn j hj
    · rw [rd_setn _ _ _ _ hin] at h
      split at h
      · omega
      · rename_i hne
        rw [rd_setn _ _ _ _ hix, if_neg hne]
        exact H.hx j hj h
    · rw [rd_setn _ _ _ _ hin] at h
      split at h
      · omega
      · exact h
  | i :: i2 :: zs, hm, hd, hl =>
    obtain ⟨b1, b2, b3, b4⟩ := bkFold_inv hc (i :: i2 :: zs) (now, next, act) H hd hm
    simp only at b1 b2 b3 b4 ⊢
    refine ⟨b1, fun j hj h => ?_, by omega, b4, by first | trivial | rfl⟩
    by_cases hz : j ∈ i :: i2 :: zs
    · rw [(hm j hz).2]; exact Int.le_refl _
    · rw [b2 j hz] at h; exact h
abbrev BkR := List Int × List Int × Bool
/-- Who sends in a slot. -/
theorem bk_l2 {cs : List (List Int)} {now next done slots : List Int} {act : Int} {r : BkR} (hN : now.length ≤ 12) (h : Ev (fun k => impl_BackoffRun.l3 k cs now next act slots done (natL (bkZ now now.length)) (now.length : Int) 0) r) :
    ∀ d i, i + d = now.length → Ev (fun k => impl_BackoffRun.l2 k cs now next act slots done (natL (bkZ now i)) (now.length : Int) (i : Int)) r := by
  intro d
  induction d with
  | zero =>
    intro i hi
    obtain rfl : i = now.length := by omega
    apply Ev.succ
    simp only [impl_BackoffRun.l2]
    exact Ev.cond (fun h' => absurd h' (Int.lt_irrefl _)) (fun _ => h)
  | succ d ih =>
    intro i hi
    have h3 := ih (i + 1) (by omega)
    have c1 : (i : Int) < (now.length : Int) := by omega
    have c2 : (0 : Int) ≤ (i : Int) := by omega
    have hz := bkZ_len now i
    have c4 : (natL (bkZ now i)).length < 17592186044416 := by rw [natL_length]; omega
    rw [bkZ_succ] at h3
    apply Ev.succ
    simp only [impl_BackoffRun.l2, w64_succ (show i < 9223372036854775807 by omega)]
    refine Ev.cond (fun _ => ?_) (fun h' => absurd c1 h')
    refine Ev.cond (fun _ => ?_) (fun h' => absurd c2 h')
    refine Ev.cond (fun _ => ?_) (fun h' => absurd c1 h')
    by_cases h0 : rd now (i : Int) = 0
    · rw [if_pos h0] at h3
      have e : natL (bkZ now i ++ [i]) = natL (bkZ now i) ++ [(i : Int)] := by simp [natL]
      rw [e] at h3
      refine Ev.cond (fun _ => ?_) (fun h' => absurd h0 h')
      exact Ev.cond (fun _ => h3) (fun h' => absurd c4 h')
    · rw [if_neg h0] at h3
      exact Ev.cond (fun h' => absurd h' h0) (fun _ => h3)
/-- A slot in which nobody sends. -/
theorem bk_l3_none {cs : List (List Int)} {now next done slots : List Int} {act : Int} {r : BkR} (hN : now.length ≤ 12) (hb : ∀ j : Nat, j < now.length → -1 ≤ rd now (j : Int) ∧ rd now (j : Int) ≤ 20)
    (h : Ev (fun k => impl_BackoffRun.l4 k cs (now.map bkDec) next act slots done [] 0 0) r) :
    ∀ d i, i + d = now.length → Ev (fun k => impl_BackoffRun.l3 k cs ((now.take i).map bkDec ++ now.drop i) next act slots done [] (now.length : Int) (i : Int)) r := by
  intro d
  induction d with
  | zero =>
    intro i hi
    obtain rfl : i = now.length := by omega
    rw [List.take_length, List.drop_length, List.append_nil]
    apply Ev.succ
    simp only [impl_BackoffRun.l3]
    exact Ev.cond (fun h' => absurd h' (Int.lt_irrefl _)) (fun _ => h)
  | succ d ih =>
    intro i hi
    have hi' : i < now.length := by omega
    have h3 := ih (i + 1) (by omega)
    have c1 : (i : Int) < (now.length : Int) := by omega
    have c2 : (0 : Int) ≤ (i : Int) := by omega
    have hlt : ((now.take i).map bkDec).length = i := by rw [List.length_map, List.length_take]; omega
    have c3 : (i : Int) < (((now.take i).map bkDec ++ now.drop i).length : Int) := by
      rw [List.length_append, hlt, List.length_drop]; omega
    have hrd : rd ((now.take i).map bkDec ++ now.drop i) (i : Int) = rd now (i : Int) := by
      rw [rd_nat, rd_nat, List.getD_eq_getElem?_getD, List.getD_eq_getElem?_getD, List.getElem?_append_right (by omega), hlt, Nat.sub_self, List.getElem?_drop, Nat.add_zero]
    have hbi := hb i hi'
    rw [take_rd hi', List.map_append, List.append_assoc] at h3
    simp only [List.map_cons, List.map_nil, List.singleton_append] at h3
    apply Ev.succ
    simp only [impl_BackoffRun.l3, w64_succ (show i < 9223372036854775807 by omega), hrd, Int.toNat_natCast]
    refine Ev.cond (fun _ => ?_) (fun h' => absurd c1 h')
    refine Ev.cond (fun _ => ?_) (fun h' => absurd c2 h')
    refine Ev.cond (fun _ => ?_) (fun h' => absurd c3 h')
    refine Ev.cond (fun _ => ?_) (fun h' => absurd rfl h')
    by_cases hp : rd now (i : Int) > 0
    · have e : wrap64 (rd now (i : Int) - 1) = bkDec (rd now (i : Int)) := by
        unfold bkDec
        rw [if_pos hp]
        exact w64 (by omega) (by omega)
      refine Ev.cond (fun _ => ?_) (fun h' => absurd hp h')
      rw [e, drop_rd hi', set_mid _ _ _ _ _ hlt]
      exact h3
    · have e : bkDec (rd now (i : Int)) = rd now (i : Int) := by
        unfold bkDec
        rw [if_neg hp]
      rw [e] at h3
      refine Ev.cond (fun h' => absurd h' hp) (fun _ => ?_)
      rw [drop_rd hi']
      exact h3
theorem bk_l3_some {cs : List (List Int)} {now next done slots own : List Int} {act : Int} {r : BkR} (hN : now.length ≤ 12) (ho : ¬ (own.length : Int) = 0)
    (h : Ev (fun k => impl_BackoffRun.l4 k cs now next act slots done own (own.length : Int) 0) r) :
    ∀ d i, i + d = now.length → Ev (fun k => impl_BackoffRun.l3 k cs now next act slots done own (now.length : Int) (i : Int)) r := by
  intro d
  induction d with
  | zero =>
    intro i hi
    obtain rfl : i = now.length := by omega
    apply Ev.succ
    simp only [impl_BackoffRun.l3]
    exact Ev.cond (fun h' => absurd h' (Int.lt_irrefl _)) (fun _ => h)
  | succ d ih =>
    intro i hi
    have h3 := ih (i + 1) (by omega)
    have c1 : (i : Int) < (now.length : Int) := by omega
    have c2 : (0 : Int) ≤ (i : Int) := by omega
    apply Ev.succ
    simp only [impl_BackoffRun.l3, w64_succ (show i < 9223372036854775807 by omega)]
    refine Ev.cond (fun _ => ?_) (fun h' => absurd c1 h')
    refine Ev.cond (fun _ => ?_) (fun h' => absurd c2 h')
    refine Ev.cond (fun _ => ?_) (fun h' => absurd c1 h')
    exact Ev.cond (fun h' => absurd h' ho) (fun _ => h3)
/-- The end of a slot. -/
theorem bk_l4_end {cs : List (List Int)} {now next done slots own : List Int} {act : Int} {r : BkR} (hs : slots.length ≤ 300)
    (h : Ev (fun k => impl_BackoffRun.l1 k cs now act (slots ++ [(own.length : Int)]) next done) r) (n : Int) : Ev (fun k => impl_BackoffRun.l4 k cs now next act slots done own n n) r := by
  have c : slots.length < 17592186044416 := by omega
  apply Ev.succ
  simp only [impl_BackoffRun.l4]
  refine Ev.cond (fun h' => absurd h' (Int.lt_irrefl _)) (fun _ => ?_)
  exact Ev.cond (fun _ => h) (fun h' => absurd c h')
/-- A slot in which one sends. -/
theorem bk_l4_one {cs : List (List Int)} (hc : CsOK cs) {now next done slots : List Int} {act : Int} {r : BkR} (hs : slots.length ≤ 300) (ha : -100000 ≤ act ∧ act ≤ 100000) (H : BkI cs now next) (hd : done.length = cs.length) {i : Nat} (hi : i < cs.length) (h0 : rd now (i : Int) = 0)
    (h : Ev (fun k => impl_BackoffRun.l1 k cs (now.set i (-1)) (act - 1) (slots ++ [1]) (next.set i (rd next (i : Int) + 1)) (done.set i (slots.length : Int))) r) :
    Ev (fun k => impl_BackoffRun.l4 k cs now next act slots done (natL [i]) (1 : Int) 0) r := by
  have hx := H.hx i hi (by omega)
  have hl := hc.l1 i hi
  have c3 : (0 : Int) ≤ (i : Int) := by omega
  have c4 : (i : Int) < (next.length : Int) := by rw [H.lx]; omega
  have c5 : (i : Int) < (done.length : Int) := by rw [hd]; omega
  have c6 : (i : Int) < (now.length : Int) := by rw [H.ln]; omega
  have e1 : wrap64 (rd next (i : Int) + 1) = rd next (i : Int) + 1 := w64 (by omega) (by omega)
  have e2 : wrap64 (act - 1) = act - 1 := w64 (by omega) (by omega)
  have e3 : rd (natL [i]) 0 = (i : Int) := rfl
  have e4 : ((natL [i]).length : Int) = 1 := rfl
  have e5 : wrap64 (0 + 1) = 1 := by rw [w64 (by omega) (by omega)]; rfl
  have hfin := bk_l4_end (own := natL [i]) hs (by rw [e4]; exact h) 1
  apply Ev.succ
  simp only [impl_BackoffRun.l4, e1, e2, e3, e4, e5, Option.bind_some, Int.toNat_natCast]
  refine Ev.cond (fun _ => ?_) (fun h' => absurd (by decide) h')
  refine Ev.cond (fun _ => ?_) (fun h' => absurd (by decide) h')
  refine Ev.cond (fun _ => ?_) (fun h' => absurd (by decide) h')
  refine Ev.cond (fun _ => ?_) (fun h' => absurd c3 h')
  refine Ev.cond (fun _ => ?_) (fun h' => absurd c4 h')
  refine Ev.cond (fun _ => ?_) (fun h' => absurd trivial h')
  refine Ev.cond (fun _ => ?_) (fun h' => absurd c5 h')
  exact Ev.cond (fun _ => hfin) (fun h' => absurd c6 h')
/-- A slot in which several send. -/
theorem bk_l4_more {cs : List (List Int)} (hc : CsOK cs) {done slots : List Int} {zs0 : List Nat} {r : BkR} (hs : slots.length ≤ 300) (h12 : zs0.length ≤ 12) (hne : ¬ ((natL zs0).length : Int) = 1) (hnd : zs0.Nodup) {s0 : List Int × List Int × Int}
    (h : Ev (fun k => impl_BackoffRun.l1 k cs (zs0.foldl (bkMv cs) s0).1 (zs0.foldl (bkMv cs) s0).2.2 (slots ++ [((natL zs0).length : Int)]) (zs0.foldl (bkMv cs) s0).2.1 done) r) :
    ∀ (d n : Nat) (s : List Int × List Int × Int), n + d = zs0.length → (zs0.drop n).foldl (bkMv cs) s = zs0.foldl (bkMv cs) s0 → BkI cs s.1 s.2.1 → (∀ i ∈ zs0.drop n, i < cs.length ∧ rd s.1 (i : Int) = 0) → -100000 ≤ s.2.2 - (d : Int) ∧ s.2.2 ≤ 100000 →
      Ev (fun k => impl_BackoffRun.l4 k cs s.1 s.2.1 s.2.2 slots done (natL zs0) ((natL zs0).length : Int) (n : Int)) r := by
  intro d
  induction d with
  | zero =>
    intro n s hn he H hz ha
    rw [List.drop_eq_nil_of_le (by omega)] at he
    rw [List.foldl_nil] at he
    rw [← he] at h
    have e : ((natL zs0).length : Int) = (n : Int) := by rw [natL_length]; omega
    have hfin := bk_l4_end (own := natL zs0) (cs := cs) (now := s.1) (next := s.2.1) (done := done) (act := s.2.2) hs h (n : Int)
    rw [e]
    exact hfin
  | succ d ih =>
    intro n s hn he H hz ha
    have hn' : n < zs0.length := by omega
    have hcons : zs0.drop n = zs0[n] :: zs0.drop (n + 1) := List.drop_eq_getElem_cons hn'
    rw [hcons] at he hz
    rw [List.foldl_cons] at he
    obtain ⟨hi, h0⟩ := hz zs0[n] List.mem_cons_self
    obtain ⟨a1, a2, a3, a4⟩ := bkMv_inv hc H hi h0
    have hndn : (zs0.drop n).Nodup := hnd.sublist (List.drop_sublist n zs0)
    rw [hcons] at hndn
    have hnn := (List.nodup_cons.1 hndn).1
    have h3 := ih (n + 1) (bkMv cs s zs0[n]) (by omega) he a1 (fun i hi => ⟨(hz i (List.mem_cons_of_mem _ hi)).1, by rw [a2 i (fun e => hnn (e ▸ hi))]; exact (hz i (List.mem_cons_of_mem _ hi)).2⟩) (by omega)
    have hrd := natL_rd hn'
    have hlen := natL_length zs0
    generalize zs0[n] = i at *
    have hx := H.hx i hi (by omega)
    have hl := hc.l1 i hi
    have hix : i < s.2.1.length := by rw [H.lx]; exact hi
    have c1 : (n : Int) < ((natL zs0).length : Int) := by omega
    have c2 : (0 : Int) ≤ (n : Int) := by omega
    have c3 : (0 : Int) ≤ (i : Int) := by omega
    have c4 : (i : Int) < (s.2.1.length : Int) := by omega
    have c5 : (i : Int) < (cs.length : Int) := by omega
    have c6 : (i : Int) < (s.1.length : Int) := by rw [H.ln]; omega
    have e1 : wrap64 (rd s.2.1 (i : Int) + 1) = rd s.2.1 (i : Int) + 1 := w64 (by omega) (by omega)
    have e2 : wrap64 (s.2.2 - 1) = s.2.2 - 1 := w64 (by omega) (by omega)
    have e3 : rd (s.2.1.set i (rd s.2.1 (i : Int) + 1)) (i : Int) = rd s.2.1 (i : Int) + 1 := by rw [rd_setn _ _ _ _ hix, if_pos rfl]
    apply Ev.succ
    simp only [impl_BackoffRun.l4, hrd, e1, e2, Option.bind_some, Int.toNat_natCast, e3, w64_succ (show n < 9223372036854775807 by omega)]
    refine Ev.cond (fun _ => ?_) (fun h' => absurd c1 h')
    refine Ev.cond (fun _ => ?_) (fun h' => absurd c2 h')
    refine Ev.cond (fun _ => ?_) (fun h' => absurd c1 h')
    refine Ev.cond (fun _ => ?_) (fun h' => absurd c3 h')
    refine Ev.cond (fun _ => ?_) (fun h' => absurd c4 h')
    refine Ev.cond (fun h' => absurd h' hne) (fun _ => ?_)
    refine Ev.cond (fun _ => ?_) (fun h' => absurd c5 h')
    unfold bkMv at h3
    by_cases hq : rd s.2.1 (i : Int) + 1 = ((rd_L2 cs (i : Int)).length : Int)
    · rw [if_pos hq] at h3
      refine Ev.cond (fun _ => ?_) (fun h' => absurd hq h')
      exact Ev.cond (fun _ => h3) (fun h' => absurd c6 h')
    · rw [if_neg hq] at h3
      refine Ev.cond (fun h' => absurd h' hq) (fun _ => ?_)
      refine Ev.cond (fun _ => ?_) (fun h' => absurd (show 0 ≤ rd s.2.1 (i : Int) + 1 by omega) h')
      refine Ev.cond (fun _ => ?_) (fun h' => absurd (show rd s.2.1 (i : Int) + 1 < ((rd_L2 cs (i : Int)).length : Int) by omega) h')
      exact Ev.cond (fun _ => h3) (fun h' => absurd c6 h')
/-- All slots. -/
theorem bk_l1 {cs : List (List Int)} (hc : CsOK cs) : ∀ (f : Nat) (now next done : List Int) (act : Int) (slots : List Int), slots.length + f = 300 → BkI cs now next → done.length = cs.length → -12 * (slots.length : Int) ≤ act ∧ act ≤ 12 →
    Ev (fun k => impl_BackoffRun.l1 k cs now act slots next done) ((bkRun cs f now next done act slots).1, (bkRun cs f now next done act slots).2, true) := by
  have stop : ∀ (now next done : List Int) (act : Int) (slots : List Int), ¬ (act > 0 ∧ slots.length < 300) → Ev (fun k => impl_BackoffRun.l1 k cs now act slots next done) (slots, done, true) := by
    intro now next done act slots h
    have fin : Ev (fun k => impl_BackoffRun.j2 k cs now next act slots done false) (slots, done, true) := by
      apply Ev.succ
      simp only [impl_BackoffRun.j2]
      exact Ev.cond (fun h' => absurd h' (by decide)) (fun _ => Ev.now _)
    apply Ev.succ
    simp only [impl_BackoffRun.l1]
    refine Ev.cond (fun h1 => ?_) (fun _ => fin)
    rw [decide_eq_false (fun h2 => h ⟨h1, by omega⟩)]
    exact fin
  intro f
  induction f with
  | zero =>
    intro now next done act slots hf H hd ha
    exact stop now next done act slots (by omega)
  | succ f ih =>
    intro now next done act slots hf H hd ha
    unfold bkRun
    by_cases hp : act > 0
    · simp only [if_pos hp]
      obtain ⟨a1, a2, a3, a4, a5⟩ := bkStep_inv hc (done := done) (act := act) (t := (slots.length : Int)) H
      have hl1 : (slots ++ [((bkZ now cs.length).length : Int)]).length = slots.length + 1 := by rw [List.length_append, List.length_singleton]
      have h3 := ih _ _ _ (bkStep cs now next done act (slots.length : Int)).2.2.2 (slots ++ [((bkZ now cs.length).length : Int)]) (by rw [hl1]; omega) a1 (by rw [a5]; exact hd) (by rw [hl1]; omega)
      obtain ⟨rr, hrr⟩ : ∃ rr, bkRun cs f (bkStep cs now next done act (slots.length : Int)).1 (bkStep cs now next done act (slots.length : Int)).2.1 (bkStep cs now next done act (slots.length : Int)).2.2.1 (bkStep cs now next done act (slots.length : Int)).2.2.2 (slots ++ [((bkZ now cs.length).length : Int)]) = rr := ⟨_, rfl⟩
      rw [hrr] at h3 ⊢
      clear hrr
      have hm : ∀ i ∈ bkZ now cs.length, i < cs.length ∧ rd now (i : Int) = 0 := fun i h => bkZ_mem h
      have hnd := bkZ_nodup now cs.length
      have hzl := bkZ_len now cs.length
      have h12 := hc.n2
      have hln := H.ln
      have key : Ev (fun k => impl_BackoffRun.l3 k cs now next act slots done (natL (bkZ now now.length)) (now.length : Int) 0) (rr.1, rr.2, true) := by
        rw [hln]
        unfold bkStep at h3
        generalize bkZ now cs.length = zs at hm hnd hzl h3 ⊢
        match zs, hm, hnd, hzl, h3 with
        | [], hm, hnd, hzl, h3 =>
          have h4 := bk_l3_none (cs := cs) (next := next) (done := done) (slots := slots) (act := act) (by omega) (fun j hj => H.hn j (by omega)) (bk_l4_end (own := []) (by omega) h3 0) now.length 0 (by omega)
          rw [hln] at h4
          exact h4
        | [i], hm, hnd, hzl, h3 =>
          obtain ⟨h1, h2⟩ := hm i List.mem_cons_self
          have h4 := bk_l3_some (cs := cs) (now := now) (next := next) (done := done) (slots := slots) (act := act) (own := natL [i]) (by omega) (by rw [natL_length]; simp) (bk_l4_one hc (by omega) (by omega) H hd h1 h2 h3) now.length 0 (by omega)
          rw [hln] at h4
          exact h4
        | i :: i2 :: zs, hm, hnd, hzl, h3 =>
          have hl2 : ((natL (i :: i2 :: zs)).length : Int) = (zs.length : Int) + 2 := by rw [natL_length]; simp only [List.length_cons]; omega
          have hlz : (i :: i2 :: zs).length = zs.length + 2 := rfl
          have h5 := bk_l4_more hc (done := done) (slots := slots) (zs0 := i :: i2 :: zs) (s0 := (now, next, act)) (by omega) (by omega) (by omega) hnd (by rw [natL_length]; exact h3) (i :: i2 :: zs).length 0 (now, next, act) (by omega) rfl H (by rw [List.drop_zero]; exact hm) (by rw [hlz]; dsimp only; omega)
          have h4 := bk_l3_some (cs := cs) (now := now) (next := next) (done := done) (slots := slots) (act := act) (own := natL (i :: i2 :: zs)) (by omega) (by omega) h5 now.length 0 (by omega)
          rw [hln] at h4
          exact h4
      have h6 := bk_l2 (cs := cs) (next := next) (done := done) (slots := slots) (act := act) (by omega) key now.length 0 (by omega)
      apply Ev.succ
      simp only [impl_BackoffRun.l1]
      refine Ev.cond (fun _ => ?_) (fun h' => absurd hp h')
      rw [decide_eq_true (show (slots.length : Int) < 300 by omega)]
      apply Ev.succ
      simp only [impl_BackoffRun.j2]
      exact Ev.cond (fun _ => h6) (fun h' => absurd (by trivial) h')
    · simp only [if_neg hp]
      exact stop now next done act slots (fun h => hp h.1)
/-- The first counters. -/
def firsts (cs : List (List Int)) : List Int := cs.map fun l => rd l 0
theorem bk_l0 {cs : List (List Int)} (hc : CsOK cs) {r : BkR} {next : List Int} (h : Ev (fun k => impl_BackoffRun.l1 k cs (firsts cs) (cs.length : Int) [] next (List.replicate cs.length (-1))) r) :
    ∀ d i, i + d = cs.length → Ev (fun k => impl_BackoffRun.l0 k cs (cs.length : Int) ((firsts cs).take i) (i : Int) next cs (cs.length : Int) (i : Int)) r := by
  have hN := hc.n1
  have hN2 := hc.n2
  have hfl : (firsts cs).length = cs.length := by unfold firsts; rw [List.length_map]
  intro d
  induction d with
  | zero =>
    intro i hi
    obtain rfl : i = cs.length := by omega
    have e : slices_Repeat_int64_int64.f [(-1)] (cs.length : Int) = some (List.replicate cs.length (-1)) := by
      unfold slices_Repeat_int64_int64.f
      rw [if_pos ⟨rfl, by omega, by omega⟩, Int.toNat_natCast]; rfl
    have e2 : (firsts cs).take cs.length = firsts cs := List.take_of_length_le (by omega)
    rw [e2]
    apply Ev.succ
    simp only [impl_BackoffRun.l0]
    refine Ev.cond (fun h' => absurd h' (Int.lt_irrefl _)) (fun _ => ?_)
    exact Ev.bind (Ev.const e) h
  | succ d ih =>
    intro i hi
    have hi' : i < cs.length := by omega
    have h3 := ih (i + 1) (by omega)
    obtain ⟨hl1, hl2⟩ := hc.l1 i hi'
    have hv := hc.hv i hi'
    have c1 : (i : Int) < (cs.length : Int) := by omega
    have c2 : (0 : Int) ≤ (i : Int) := by omega
    have c3 : ¬ ((rd_L2 cs (i : Int)).length : Int) < 1 := by omega
    have c4 : ¬ ((rd_L2 cs (i : Int)).length : Int) > 40 := by omega
    have c5 : 0 < ((rd_L2 cs (i : Int)).length : Int) := by omega
    have c6 : ((firsts cs).take i).length < 17592186044416 := by rw [List.length_take]; omega
    have e : (firsts cs).take (i + 1) = (firsts cs).take i ++ [rd (rd_L2 cs (i : Int)) 0] := by
      rw [take_rd (by omega)]
      congr 2
      rw [rd_nat]
      unfold firsts rd_L2
      rw [Int.toNat_natCast, List.getD_eq_getElem?_getD, List.getD_eq_getElem?_getD, List.getElem?_map, List.getElem?_eq_getElem hi']
      rfl
    rw [e] at h3
    apply Ev.succ
    simp only [impl_BackoffRun.l0, w64_succ (show i < 9223372036854775807 by omega)]
    refine Ev.cond (fun _ => ?_) (fun h' => absurd c1 h')
    refine Ev.cond (fun _ => ?_) (fun h' => absurd c2 h')
    refine Ev.cond (fun _ => ?_) (fun h' => absurd c1 h')
    refine Ev.cond (fun h' => absurd h' c3) (fun _ => ?_)
    refine Ev.cond (fun h' => absurd h' c4) (fun _ => ?_)
    refine Ev.bind (areIn_ev 0 20 (rd_L2 cs (i : Int)) (by omega)) ?_
    rw [hv]
    refine Ev.cond (fun _ => ?_) (fun h' => absurd (by trivial) h')
    refine Ev.cond (fun _ => ?_) (fun h' => absurd c5 h')
    exact Ev.cond (fun _ => h3) (fun h' => absurd c6 h')
/-- What the run answers. -/
def bkAll (cs : List (List Int)) : List Int × List Int := bkRun cs 300 (firsts cs) (List.replicate cs.length 0) (List.replicate cs.length (-1)) (cs.length : Int) []
theorem rd_firsts {cs : List (List Int)} (j : Nat) : rd (firsts cs) (j : Int) = rd (rd_L2 cs (j : Int)) 0 := by
  rw [rd_nat]
  unfold firsts rd_L2
  rw [Int.toNat_natCast, List.getD_eq_getElem?_getD, List.getD_eq_getElem?_getD, List.getElem?_map]
  cases cs[j]? <;> rfl
theorem bkStart {cs : List (List Int)} (hc : CsOK cs) : BkI cs (firsts cs) (List.replicate cs.length 0) := by
  have hrep : ∀ j : Nat, rd (List.replicate cs.length (0 : Int)) (j : Int) = 0 := by
    intro j
    rw [rd_nat, List.getD_eq_getElem?_getD, List.getElem?_replicate]
    split <;> rfl
  refine ⟨by unfold firsts; rw [List.length_map], List.length_replicate, fun j hj => ?_, fun j hj _ => ?_⟩
  · rw [rd_firsts]
    have h1 := hc.l1 j hj
    have h2 := inAll_mem (hc.hv j hj) _ (rd_mem (xs := rd_L2 cs (j : Int)) (n := 0) (by omega))
    rw [show ((0 : Nat) : Int) = 0 from rfl] at h2
    omega
  · rw [hrep]
    have h1 := hc.l1 j hj
    omega
theorem BackoffRun_ev {cs : List (List Int)} (hc : CsOK cs) : Ev (fun k => impl_BackoffRun.f k cs) ((bkAll cs).1, (bkAll cs).2, true) := by
  have hN := hc.n1
  have hN2 := hc.n2
  have hb : impl_areStations.f (cs.length : Int) = some true := by
    unfold impl_areStations.f
    rw [within_eq, decide_eq_true (by omega)]; rfl
  have c1 : (0 : Int) ≤ (cs.length : Int) := by omega
  have c2 : cs.length ≤ 35184372088832 := by omega
  have h1 := bk_l1 hc 300 (firsts cs) (List.replicate cs.length 0) (List.replicate cs.length (-1)) (cs.length : Int) [] rfl (bkStart hc) List.length_replicate (by simp; omega)
  have h2 := bk_l0 hc h1 cs.length 0 (by omega)
  unfold impl_BackoffRun.f
  refine Ev.bind (Ev.const hb) ?_
  simp only [Int.toNat_natCast]
  refine Ev.cond (fun _ => ?_) (fun h' => absurd (by trivial) h')
  refine Ev.cond (fun _ => ?_) (fun h' => absurd c1 h')
  exact Ev.cond (fun _ => h2) (fun h' => absurd c2 h')

/-! r8 -/
theorem wf_u8 {x : Int} (h : (Lit.int .u8 x).wf = true) : 0 ≤ x ∧ x ≤ 255 := by
  have h1 : decide (IntKind.min .u8 ≤ x) = true ∧ decide (x ≤ IntKind.max .u8) = true := by
    simpa [Lit.wf] using h
  obtain ⟨ha, hb⟩ := h1
  have ha := of_decide_eq_true ha
  have hb := of_decide_eq_true hb
  have e1 : IntKind.min .u8 = 0 := by decide
  have e2 : IntKind.max .u8 = 255 := by decide
  rw [e1] at ha
  rw [e2] at hb
  exact ⟨ha, hb⟩

/-! src -/
theorem u64_mod (z : Int) : IntKind.u64.wrap z = z % 18446744073709551616 := by simp [IntKind.wrap, IntKind.bits, IntKind.signed]
theorem u64_and255 (z : Int) : 0 ≤ wrap64 (Go.bits .and .u64 ((IntKind.u64.wrap z) / 1099511627776) 255) ∧ wrap64 (Go.bits .and .u64 ((IntKind.u64.wrap z) / 1099511627776) 255) ≤ 255 := by
  obtain ⟨Y, hY⟩ := Int.eq_ofNat_of_zero_le (show 0 ≤ (IntKind.u64.wrap z) / 1099511627776 by rw [u64_mod]; omega)
  have hlt : Y < 18446744073709551616 := by rw [u64_mod] at hY; omega
  rw [hY]
  have h2 : Go.bits .and .u64 (Y : Int) 255 = ((Y &&& 255 : Nat) : Int) := bits_and_u64_nat Y 255 hlt (by decide)
  rw [h2]
  have h3 : Y &&& 255 ≤ 255 := Nat.and_le_right
  rw [w64 (by omega) (by omega)]
  omega
theorem src_next (l : List Int) (h : ∀ x ∈ l, (Lit.int .u8 x).wf = true) (p : Nat) (hs : Int) (hp : p < 1099511627776) : ∃ v hs', spec_l00Src_next.f l (p : Int) hs = some (v, ((p + 1 : Nat) : Int), hs') ∧ 0 ≤ v ∧ v ≤ 255 := by
  have hw : wrap64 ((p : Int) + 1) = ((p + 1 : Nat) : Int) := w64_succ (by omega)
  unfold spec_l00Src_next.f
  by_cases h1 : p < l.length
  · have hx := wf_u8 (h _ (rd_mem h1))
    rw [if_pos (show (p : Int) < (l.length : Int) by omega), if_pos (show (0 : Int) ≤ (p : Int) by omega), hw, if_pos (show ((p + 1 : Nat) : Int) ≤ (l.length : Int) by omega)]
    refine ⟨_, _, rfl, ?_⟩
    rw [w64 (by omega) (by omega)]
    exact hx
  · rw [if_neg (show ¬ (p : Int) < (l.length : Int) by omega), hw, if_neg (show ¬ ((p + 1 : Nat) : Int) ≤ (l.length : Int) by omega)]
    exact ⟨_, _, rfl, u64_and255 _⟩
theorem src_pick (l : List Int) (h : ∀ x ∈ l, (Lit.int .u8 x).wf = true) (p : Nat) (hs a : Int) (hp : p < 1099511627776) (ha : 2 ≤ a) (ha2 : a ≤ 200) : ∃ v hs', spec_l00Src_pick.f l (p : Int) hs a = some (v, ((p + 1 : Nat) : Int), hs') ∧ 0 ≤ v ∧ v < a := by
  obtain ⟨v, hs', h1, h2, h3⟩ := src_next l h p hs hp
  unfold spec_l00Src_pick.f
  rw [if_neg (by omega), h1, Option.bind_some, if_neg (by omega), if_neg (by omega)]
  exact ⟨_, _, rfl, Int.tmod_nonneg _ h2, Int.tmod_lt_of_pos _ (by omega)⟩

/-! b10 -/
theorem b10Long_eq (l m : List Int) : ∃ b, laws_b10Long.f l m = some b := by
  unfold laws_b10Long.f
  split
  · exact ⟨_, rfl⟩
  · exact ⟨_, rfl⟩

/-- How often a number stands in a list. -/
def cntV (v : Int) : List Int → Int
  | [] => 0
  | x :: r => (if x = v then 1 else 0) + cntV v r
theorem cntV_append (v : Int) (a b : List Int) : cntV v (a ++ b) = cntV v a + cntV v b := by
  induction a with
  | nil => simp [cntV]
  | cons x a ih => simp only [List.cons_append, cntV, ih]; omega
theorem cntV_set (v x : Int) : ∀ (xs : List Int) (i : Nat), i < xs.length → cntV v (xs.set i x) = cntV v xs - (if rd xs (i : Int) = v then 1 else 0) + (if x = v then 1 else 0)
  | [], _, h => absurd h (Nat.not_lt_zero _)
  | y :: ys, 0, _ => by
    have e : rd (y :: ys) ((0 : Nat) : Int) = y := rfl
    rw [e]
    simp only [List.set_cons_zero, cntV]
    omega
  | y :: ys, i + 1, h => by
    have e : rd (y :: ys) ((i + 1 : Nat) : Int) = rd ys (i : Int) := by rw [rd_nat, rd_nat]; rfl
    have := cntV_set v x ys i (by simpa using h)
    rw [e]
    simp only [List.set_cons_succ, cntV, this]
    omega
theorem cntV_rep (v : Int) (n : Nat) : cntV v (List.replicate n v) = (n : Int) := by
  induction n with
  | zero => rfl
  | succ n ih => simp only [List.replicate_succ, cntV, if_true, ih]; omega
theorem rd_snoc {xs : List Int} {x d : Int} (h0 : 0 ≤ d) (h : d < (xs.length : Int)) : rd (xs ++ [x]) d = rd xs d := by
  obtain ⟨n, rfl⟩ := Int.eq_ofNat_of_zero_le h0
  rw [rd_nat, rd_nat, List.getD_eq_getElem?_getD, List.getD_eq_getElem?_getD, List.getElem?_append_left (by omega)]
theorem rd_last {xs : List Int} {x : Int} : rd (xs ++ [x]) (xs.length : Int) = x := by
  rw [rd_nat, List.getD_eq_getElem?_getD, List.getElem?_append_right (Nat.le_refl _)]; simp
/-- What is known of the answers while slots are counted. -/
structure BkD (N : Nat) (now done slots : List Int) : Prop where
  ld : done.length = N
  hd : ∀ j : Nat, j < N → 0 ≤ rd now (j : Int) → rd done (j : Int) = -1
  hp : ∀ j : Nat, j < N → rd done (j : Int) ≠ -1 → 0 ≤ rd done (j : Int) ∧ rd done (j : Int) < (slots.length : Int) ∧ rd slots (rd done (j : Int)) = 1
  hu : ∀ i j : Nat, i < N → j < N → i ≠ j → rd done (i : Int) ≠ -1 → rd done (i : Int) ≠ rd done (j : Int)
  hs : ∀ x ∈ slots, 0 ≤ x ∧ x ≤ (N : Int)
  hc : cntV 1 slots + cntV (-1) done = (N : Int)
theorem BkD_same {N : Nat} {now now' done slots : List Int} {x : Int} (H : BkD N now done slots) (hm : ∀ j : Nat, j < N → 0 ≤ rd now' (j : Int) → 0 ≤ rd now (j : Int)) (hx : 0 ≤ x ∧ x ≤ (N : Int)) (h1 : x ≠ 1) : BkD N now' done (slots ++ [x]) := by
  refine ⟨H.ld, fun j hj h => H.hd j hj (hm j hj h), fun j hj h => ?_, H.hu, fun y hy => ?_, ?_⟩
  · obtain ⟨a1, a2, a3⟩ := H.hp j hj h
    rw [rd_snoc a1 a2, List.length_append, List.length_singleton]
    exact ⟨a1, by omega, a3⟩
  · rcases List.mem_append.1 hy with hy | hy
    · exact H.hs y hy
    · rw [List.mem_singleton.1 hy]; exact hx
  · rw [cntV_append]
    simp only [cntV, if_neg h1]
    have := H.hc
    omega
theorem BkD_one {N : Nat} {now done slots : List Int} (H : BkD N now done slots) {i : Nat} (hi : i < N) (hn : i < now.length) (h0 : rd now (i : Int) = 0) : BkD N (now.set i (-1)) (done.set i (slots.length : Int)) (slots ++ [1]) := by
  have hid : i < done.length := by rw [H.ld]; exact hi
  have hdi := H.hd i hi (by omega)
  refine ⟨by rw [List.length_set]; exact H.ld, fun j hj h => ?_, fun j hj h => ?_, fun a b ha hb hab h => ?_, fun y hy => ?_, ?_⟩
  · rw [rd_setn _ _ _ _ hn] at h
    rw [rd_setn _ _ _ _ hid]
    split at h
    · omega
    · rename_i hne
      rw [if_neg hne]
      exact H.hd j hj h
  · rw [rd_setn _ _ _ _ hid] at h ⊢
    rw [List.length_append, List.length_singleton]
    split at h
    · rename_i e
      rw [if_pos e]
      exact ⟨by omega, by omega, rd_last⟩
    · rename_i e
      rw [if_neg e]
      obtain ⟨a1, a2, a3⟩ := H.hp j hj h
      rw [rd_snoc a1 a2]
      exact ⟨a1, by omega, a3⟩
  · rw [rd_setn _ _ _ _ hid] at h ⊢
    rw [rd_setn _ _ _ _ hid]
    by_cases ea : i = a
    · have eb : ¬ i = b := fun e => hab (ea.symm.trans e)
      rw [if_pos ea, if_neg eb]
      by_cases hb1 : rd done (b : Int) = -1
      · omega
      · have := H.hp b hb hb1
        omega
    · rw [if_neg ea] at h ⊢
      have := H.hp a ha h
      by_cases eb : i = b
      · rw [if_pos eb]; omega
      · rw [if_neg eb]; exact H.hu a b ha hb hab h
  · rcases List.mem_append.1 hy with hy | hy
    · exact H.hs y hy
    · rw [List.mem_singleton.1 hy]; omega
  · rw [cntV_append, cntV_set _ _ _ _ hid, if_pos hdi, if_neg (show ¬ (slots.length : Int) = -1 by omega)]
    simp only [cntV, if_true]
    have := H.hc
    omega
theorem BkD_step {cs : List (List Int)} (hc : CsOK cs) {now next done slots : List Int} {act : Int} (HI : BkI cs now next) (H : BkD cs.length now done slots) :
    BkD cs.length (bkStep cs now next done act (slots.length : Int)).1 (bkStep cs now next done act (slots.length : Int)).2.2.1 (slots ++ [((bkZ now cs.length).length : Int)]) := by
  obtain ⟨a1, a2, a3, a4, a5⟩ := bkStep_inv hc (done := done) (act := act) (t := (slots.length : Int)) HI
  have hm : ∀ i ∈ bkZ now cs.length, i < cs.length ∧ rd now (i : Int) = 0 := fun i h => bkZ_mem h
  have hzl := bkZ_len now cs.length
  unfold bkStep at a2 ⊢
  generalize bkZ now cs.length = zs at hm hzl a2 ⊢
  match zs, hm, hzl, a2 with
  | [], hm, hzl, a2 => exact BkD_same H a2 ⟨by simp, by simp⟩ (by simp)
  | [i], hm, hzl, a2 =>
    obtain ⟨h1, h2⟩ := hm i List.mem_cons_self
    exact BkD_one H h1 (by rw [HI.ln]; exact h1) h2
  | i :: i2 :: zs, hm, hzl, a2 =>
    simp only [List.length_cons] at hzl
    exact BkD_same H a2 ⟨by omega, by simp only [List.length_cons]; omega⟩ (by simp only [List.length_cons]; omega)
theorem BkD_run {cs : List (List Int)} (hc : CsOK cs) : ∀ (f : Nat) (now next done : List Int) (act : Int) (slots : List Int), slots.length + f = 300 → BkI cs now next → BkD cs.length now done slots →
    (∃ now', BkD cs.length now' (bkRun cs f now next done act slots).2 (bkRun cs f now next done act slots).1) ∧ slots.length ≤ (bkRun cs f now next done act slots).1.length ∧ (bkRun cs f now next done act slots).1.length ≤ 300 ∧ (0 < f → act > 0 → slots.length < (bkRun cs f now next done act slots).1.length) := by
  intro f
  induction f with
  | zero => intro now next done act slots hf _ H; exact ⟨⟨now, H⟩, Nat.le_refl _, by unfold bkRun; dsimp only; omega, fun h => absurd h (Nat.lt_irrefl _)⟩
  | succ f ih =>
    intro now next done act slots hf HI H
    unfold bkRun
    by_cases hp : act > 0
    · simp only [if_pos hp]
      have a1 := (bkStep_inv hc (done := done) (act := act) (t := (slots.length : Int)) HI).1
      have hl1 : (slots ++ [((bkZ now cs.length).length : Int)]).length = slots.length + 1 := by rw [List.length_append, List.length_singleton]
      obtain ⟨b1, b2, b3, _⟩ := ih _ _ _ (bkStep cs now next done act (slots.length : Int)).2.2.2 _ (by rw [hl1]; omega) a1 (BkD_step hc (act := act) HI H)
      rw [hl1] at b2
      exact ⟨b1, by omega, b3, fun _ _ => by omega⟩
    · simp only [if_neg hp]
      exact ⟨⟨now, H⟩, Nat.le_refl _, by omega, fun _ h => absurd h hp⟩
/-- What is known of the run's answer. -/
theorem bkAll_ok {cs : List (List Int)} (hc : CsOK cs) : (∃ now', BkD cs.length now' (bkAll cs).2 (bkAll cs).1) ∧ 0 < (bkAll cs).1.length ∧ (bkAll cs).1.length ≤ 300 := by
  have hN := hc.n1
  have hrep : ∀ j : Nat, j < cs.length → rd (List.replicate cs.length (-1 : Int)) (j : Int) = -1 := by
    intro j hj
    rw [rd_nat, List.getD_eq_getElem?_getD, List.getElem?_replicate, if_pos hj]; rfl
  have H : BkD cs.length (firsts cs) (List.replicate cs.length (-1)) [] :=
    ⟨List.length_replicate, fun j hj _ => hrep j hj, fun j hj h => absurd (hrep j hj) h, fun i j hi _ _ h => absurd (hrep i hi) h, fun x hx => absurd hx (by simp), by rw [cntV_rep]; simp [cntV]⟩
  obtain ⟨b1, b2, b3, b4⟩ := BkD_run hc 300 (firsts cs) (List.replicate cs.length 0) (List.replicate cs.length (-1)) (cs.length : Int) [] rfl (bkStart hc) H
  exact ⟨b1, b4 (by omega) (by omega), b3⟩
/-- A list of counters as drawn. -/
def ctOK (ys : List Int) : Prop := 1 ≤ ys.length ∧ ys.length ≤ 4 ∧ ∀ x ∈ ys, 0 ≤ x ∧ x ≤ 5
theorem B10C_l1 (l : List Int) (h : ∀ x ∈ l, (Lit.int .u8 x).wf = true) (out : List (List Int)) (n : Int) (ho : out.length ≤ 1000) : ∀ (d : Nat) (xs : List Int) (p : Nat) (hs : Int), p + d ≤ 1000000 → xs.length + d ≤ 4 → (∀ x ∈ xs, 0 ≤ x ∧ x ≤ 5) →
    ∃ ys p' hs', p' = p + d ∧ ys.length = xs.length + d ∧ (∀ x ∈ ys, 0 ≤ x ∧ x ≤ 5) ∧ ∀ r, Ev (fun k => spec_B10Counters.l0 k (out ++ [ys]) (wrap64 (n - 1)) l ((p' : Nat) : Int) hs') r → Ev (fun k => spec_B10Counters.l1 k out n xs (d : Int) l (p : Int) hs) r := by
  intro d
  induction d with
  | zero =>
    intro xs p hs hp hl hx
    refine ⟨xs, p, hs, rfl, rfl, hx, fun r hr => ?_⟩
    have c2 : out.length < 5864062014805 := by omega
    apply Ev.succ
    simp only [spec_B10Counters.l1]
    refine Ev.cond (fun h' => absurd h' (by decide)) (fun _ => ?_)
    exact Ev.cond (fun _ => hr) (fun h' => absurd c2 h')
  | succ d ih =>
    intro xs p hs hp hl hx
    obtain ⟨v, hs', e, hv0, hv1⟩ := src_pick l h p hs 6 (by omega) (by omega) (by omega)
    obtain ⟨ys, p', hs2, g0, g1, g2, g3⟩ := ih (xs ++ [v]) (p + 1) hs' (by omega) (by rw [List.length_append, List.length_singleton]; omega) (by
      intro x hx2
      rcases List.mem_append.1 hx2 with hx2 | hx2
      · exact hx x hx2
      · rw [List.mem_singleton] at hx2; omega)
    refine ⟨ys, p', hs2, by omega, by rw [g1, List.length_append, List.length_singleton]; omega, g2, fun r hr => ?_⟩
    have e2 : wrap64 (((d + 1 : Nat) : Int) - 1) = (d : Int) := by rw [w64 (by omega) (by omega)]; omega
    have c1 : ((d + 1 : Nat) : Int) > 0 := by omega
    have c2 : xs.length < 17592186044416 := by omega
    apply Ev.succ
    simp only [spec_B10Counters.l1, e2]
    refine Ev.cond (fun _ => ?_) (fun h' => absurd c1 h')
    refine Ev.bind (Ev.const e) ?_
    exact Ev.cond (fun _ => g3 r hr) (fun h' => absurd c2 h')
theorem B10C_l0 (l : List Int) (h : ∀ x ∈ l, (Lit.int .u8 x).wf = true) : ∀ (d : Nat) (out : List (List Int)) (p : Nat) (hs : Int), p + 5 * d ≤ 900000 → out.length + d ≤ 5 → (∀ y ∈ out, ctOK y) →
    ∃ cs, Ev (fun k => spec_B10Counters.l0 k out (d : Int) l (p : Int) hs) cs ∧ cs.length = out.length + d ∧ (∀ y ∈ cs, ctOK y) := by
  intro d
  induction d with
  | zero =>
    intro out p hs hp hl hx
    refine ⟨out, ?_, rfl, hx⟩
    apply Ev.succ
    simp only [spec_B10Counters.l0]
    exact Ev.cond (fun h' => absurd h' (by decide)) (fun _ => Ev.now _)
  | succ d ih =>
    intro out p hs hp hl hx
    obtain ⟨v, hs', e, hv0, hv1⟩ := src_pick l h p hs 4 (by omega) (by omega) (by omega)
    obtain ⟨m, rfl⟩ := Int.eq_ofNat_of_zero_le hv0
    obtain ⟨ys, p', hs2, g0, g1, g2, g3⟩ := B10C_l1 l h out ((d + 1 : Nat) : Int) (by omega) (1 + m) [] (p + 1) hs' (by omega) (by simp; omega) (by simp)
    simp only [List.length_nil] at g1
    obtain ⟨cs, k1, k2, k3⟩ := ih (out ++ [ys]) p' hs2 (by omega) (by rw [List.length_append, List.length_singleton]; omega) (by
      intro y hy
      rcases List.mem_append.1 hy with hy | hy
      · exact hx y hy
      · rw [List.mem_singleton.1 hy]; exact ⟨by omega, by omega, g2⟩)
    refine ⟨cs, ?_, by rw [k2, List.length_append, List.length_singleton]; omega, k3⟩
    have e2 : wrap64 (((d + 1 : Nat) : Int) - 1) = (d : Int) := by rw [w64 (by omega) (by omega)]; omega
    have e3 : wrap64 (1 + (m : Int)) = ((1 + m : Nat) : Int) := by rw [w64 (by omega) (by omega)]; omega
    have c1 : ((d + 1 : Nat) : Int) > 0 := by omega
    apply Ev.succ
    simp only [spec_B10Counters.l0]
    refine Ev.cond (fun _ => ?_) (fun h' => absurd c1 h')
    refine Ev.bind (Ev.const e) ?_
    rw [e3]
    exact g3 cs (by rw [e2]; exact k1)
theorem B10Counters_ev (l : List Int) (h : ∀ x ∈ l, (Lit.int .u8 x).wf = true) : ∃ cs : List (List Int), Ev (fun k => spec_B10Counters.f k l) cs ∧ CsOK cs := by
  obtain ⟨v, hs', e, hv0, hv1⟩ := src_pick l h 0 0 5 (by omega) (by omega) (by omega)
  obtain ⟨m, rfl⟩ := Int.eq_ofNat_of_zero_le hv0
  obtain ⟨cs, g1, g2, g3⟩ := B10C_l0 l h (1 + m) [] 1 hs' (by omega) (by simp; omega) (by simp)
  simp only [List.length_nil] at g2
  have hel : ∀ j : Nat, j < cs.length → ctOK (rd_L2 cs (j : Int)) := by
    intro j hj
    have e : rd_L2 cs (j : Int) = cs[j] := by
      unfold rd_L2
      rw [Int.toNat_natCast, List.getD_eq_getElem?_getD, List.getElem?_eq_getElem hj]; rfl
    rw [e]
    exact g3 _ (List.getElem_mem hj)
  refine ⟨cs, ?_, ⟨by omega, by omega, fun j hj => ?_, fun j hj => ?_⟩⟩
  · have e2 : wrap64 (1 + (m : Int)) = ((1 + m : Nat) : Int) := by rw [w64 (by omega) (by omega)]; omega
    have e0 : spec_l00From.f l = some (l, 0, 0) := rfl
    unfold spec_B10Counters.f
    refine Ev.bind (Ev.const e0) ?_
    refine Ev.bind (Ev.const e) ?_
    rw [e2]
    exact g1
  · obtain ⟨a, b, _⟩ := hel j hj
    omega
  · obtain ⟨_, _, c⟩ := hel j hj
    exact inAll_of (fun x hx => by have := c x hx; omega)
theorem b10Has_no (xs : List Int) (y : Int) (hn : xs.length ≤ 1000) (h : ∀ j : Nat, j < xs.length → rd xs (j : Int) ≠ y) : Ev (fun k => laws_b10Has.f k xs y) false := by
  have key : ∀ d n, n + d = xs.length → Ev (fun k => laws_b10Has.l0 k xs y (n : Int)) false := by
    intro d
    induction d with
    | zero =>
      intro n hn2
      have c1 : ¬ (n : Int) < (xs.length : Int) := by omega
      apply Ev.succ
      simp only [laws_b10Has.l0]
      exact Ev.cond (fun h' => absurd h' c1) (fun _ => Ev.now _)
    | succ d ih =>
      intro n hn2
      have c1 : (n : Int) < (xs.length : Int) := by omega
      have c2 : (0 : Int) ≤ (n : Int) := by omega
      have c3 := h n (by omega)
      apply Ev.succ
      simp only [laws_b10Has.l0, w64_succ (show n < 9223372036854775807 by omega)]
      refine Ev.cond (fun _ => ?_) (fun h' => absurd c1 h')
      refine Ev.cond (fun _ => ?_) (fun h' => absurd c2 h')
      exact Ev.cond (fun h' => absurd h' c3) (fun _ => ih (n + 1) (by omega))
  exact key xs.length 0 (by omega)
theorem Bk_l1 {N : Nat} {now sent done : List Int} (H : BkD N now done sent) (hN : N ≤ 12) (h0 : 0 < sent.length) (h1 : sent.length ≤ 300) :
    ∀ (d n : Nat) (c : Int), n + d = N → c + cntV (-1) (done.take n) = (n : Int) → 0 ≤ c → c ≤ 12 → Ev (fun k => laws_FnBackoff.l1 k sent done (cntV 1 sent) c (n : Int)) true := by
  intro d
  induction d with
  | zero =>
    intro n c hn hc _ _
    have c1 : ¬ (n : Int) < (done.length : Int) := by rw [H.ld]; omega
    rw [List.take_of_length_le (by rw [H.ld]; omega)] at hc
    have e : c = cntV 1 sent := by have := H.hc; omega
    apply Ev.succ
    simp only [laws_FnBackoff.l1]
    refine Ev.cond (fun h' => absurd h' c1) (fun _ => ?_)
    refine Ev.cond (fun _ => ?_) (fun h' => absurd e h')
    exact Ev.const (by rw [decide_eq_true (by omega)])
  | succ d ih =>
    intro n c hn hc hc0 hc1
    have hld := H.ld
    have hnd : n < done.length := by omega
    have c1 : (n : Int) < (done.length : Int) := by omega
    have c2 : (0 : Int) ≤ (n : Int) := by omega
    have hnl : ((done.take n).length : Int) = (n : Int) := by rw [List.length_take]; omega
    have htk := take_rd hnd
    apply Ev.succ
    simp only [laws_FnBackoff.l1, w64_succ (show n < 9223372036854775807 by omega)]
    refine Ev.cond (fun _ => ?_) (fun h' => absurd c1 h')
    refine Ev.cond (fun _ => ?_) (fun h' => absurd c2 h')
    refine Ev.cond (fun hm => ?_) (fun hm => ?_)
    · refine ih (n + 1) c (by omega) ?_ hc0 hc1
      rw [htk, cntV_append, hm]
      simp only [cntV, if_true]
      omega
    · obtain ⟨a1, a2, a3⟩ := H.hp n (by omega) hm
      have c3 : ¬ rd done (n : Int) < 0 := by omega
      have c4 : ¬ rd done (n : Int) ≥ (sent.length : Int) := by omega
      have c5 : (n : Int) ≤ (done.length : Int) := by omega
      have hh : Ev (fun k => laws_b10Has.f k (done.take n) (rd done (n : Int))) false := by
        refine b10Has_no _ _ (by rw [List.length_take]; omega) (fun j hj => ?_)
        rw [List.length_take] at hj
        have e : rd (done.take n) (j : Int) = rd done (j : Int) := by
          rw [rd_nat, rd_nat, List.getD_eq_getElem?_getD, List.getD_eq_getElem?_getD, List.getElem?_take_of_lt (by omega)]
        rw [e]
        exact (H.hu n j (by omega) (by omega) (by omega) hm).symm
      have hc2 : c + 1 ≤ 12 ∧ wrap64 (c + 1) = c + 1 := by
        have : 0 ≤ cntV (-1) (done.take n) := by
          generalize done.take n = ys
          induction ys with
          | nil => exact Int.le_refl _
          | cons y ys ih => simp only [cntV]; split <;> omega
        exact ⟨by omega, w64 (by omega) (by omega)⟩
      refine Ev.cond (fun h' => absurd h' c3) (fun _ => ?_)
      refine Ev.cond (fun h' => absurd h' c4) (fun _ => ?_)
      refine Ev.cond (fun _ => ?_) (fun h' => absurd a1 h')
      refine Ev.cond (fun _ => ?_) (fun h' => absurd a2 h')
      refine Ev.cond (fun _ => ?_) (fun h' => absurd a3 h')
      refine Ev.cond (fun _ => ?_) (fun h' => absurd c5 h')
      simp only [Int.toNat_natCast]
      refine Ev.bind hh ?_
      rw [hc2.2]
      refine Ev.cond (fun h' => absurd h' (by decide)) (fun _ => ?_)
      refine ih (n + 1) (c + 1) (by omega) ?_ (by omega) hc2.1
      rw [htk, cntV_append]
      simp only [cntV, if_neg hm]
      omega
theorem Bk_l0 {cs : List (List Int)} {now sent done : List Int} (H : BkD cs.length now done sent) (h1 : sent.length ≤ 300) (fin : Ev (fun k => laws_FnBackoff.l1 k sent done (cntV 1 sent) 0 0) true) :
    ∀ (d n : Nat), n + d = sent.length → (0 ≤ cntV 1 (sent.take n) ∧ cntV 1 (sent.take n) ≤ (n : Int)) → Ev (fun k => laws_FnBackoff.l0 k cs sent done (cntV 1 (sent.take n)) (n : Int)) true := by
  intro d
  induction d with
  | zero =>
    intro n hn _
    have c1 : ¬ (n : Int) < (sent.length : Int) := by omega
    rw [List.take_of_length_le (by omega)]
    apply Ev.succ
    simp only [laws_FnBackoff.l0]
    exact Ev.cond (fun h' => absurd h' c1) (fun _ => fin)
  | succ d ih =>
    intro n hn hb
    have hns : n < sent.length := by omega
    have c1 : (n : Int) < (sent.length : Int) := by omega
    have c2 : (0 : Int) ≤ (n : Int) := by omega
    have hx := H.hs _ (rd_mem hns)
    have c3 : ¬ rd sent (n : Int) < 0 := by omega
    have h3 := ih (n + 1) (by omega)
    rw [take_rd hns, cntV_append] at h3
    simp only [cntV] at h3
    have e1 : wrap64 (cntV 1 (sent.take n) + 1) = cntV 1 (sent.take n) + 1 := w64 (by omega) (by omega)
    apply Ev.succ
    simp only [laws_FnBackoff.l0]
    refine Ev.cond (fun _ => ?_) (fun h' => absurd c1 h')
    refine Ev.cond (fun _ => ?_) (fun h' => absurd c2 h')
    refine Ev.cond (fun h' => absurd h' c3) (fun _ => ?_)
    rw [decide_eq_false (show ¬ rd sent (n : Int) > (cs.length : Int) by omega)]
    apply Ev.succ
    simp only [laws_FnBackoff.j2, e1, w64_succ (show n < 9223372036854775807 by omega)]
    refine Ev.cond (fun h' => absurd h' (by decide)) (fun _ => ?_)
    refine Ev.cond (fun _ => ?_) (fun h' => absurd c2 h')
    refine Ev.cond (fun _ => ?_) (fun h' => absurd c1 h')
    refine Ev.cond (fun h' => ?_) (fun h' => ?_)
    · rw [if_pos h'] at h3
      have h4 := h3 (by omega)
      rw [show cntV 1 (sent.take n) + (1 + 0) = cntV 1 (sent.take n) + 1 by omega] at h4
      exact h4
    · rw [if_neg h'] at h3
      have h4 := h3 (by omega)
      rw [show cntV 1 (sent.take n) + (0 + 0) = cntV 1 (sent.take n) by omega] at h4
      exact h4
theorem FnBackoff : laws_FnBackoff.Pure := by
  intro l m hl hl2 hlw hm hm2 hmw
  refine Ev.rounds ?_
  unfold laws_FnBackoff.f
  obtain ⟨b, hb⟩ := b10Long_eq l m
  refine Ev.bind (Ev.const hb) ?_
  refine Ev.cond (fun _ => Ev.now _) (fun _ => ?_)
  obtain ⟨cs, g1, hc⟩ := B10Counters_ev l hlw
  refine Ev.bind g1 ?_
  obtain ⟨⟨now, H⟩, h0, h300⟩ := bkAll_ok hc
  refine Ev.bind (BackoffRun_ev hc) ?_
  have h12 := hc.n2
  have e : (((bkAll cs).2.length : Int) != (cs.length : Int)) = false := by rw [H.ld]; exact bne_self_eq_false _
  refine Ev.cond (fun _ => ?_) (fun h' => absurd (by trivial) h')
  rw [e]
  apply Ev.succ
  simp only [laws_FnBackoff.j0]
  refine Ev.cond (fun h' => absurd h' (by decide)) (fun _ => ?_)
  exact Bk_l0 H h300 (Bk_l1 H h12 h0 h300 cs.length 0 0 (by omega) (by simp [cntV]) (by omega) (by omega)) (bkAll cs).1.length 0 (by omega) ⟨by simp [cntV], by simp [cntV]⟩

end Go.Proofs.Ytbgiddnffchnpaa.Pure
