/- FnBackoff: functions that it reaches, with what they compute and the proof that they do; written by a program of this session (wip/myprint.py). -/
import Derived.Test.YtbgiddnffchnpaaQFnBackoffx0
import Derived.Test.YtbgiddnffchnpaaQFnBackoffx1
namespace Go.Proofs.Ytbgiddnffchnpaa.QFnBackoff
open Go.RowKit Go.Proofs.YtbgiddnffchnpaaW.PrintWords Go.Proofs.YtbgiddnffchnpaaW.PrintLast Go.Proofs.YtbgiddnffchnpaaW.PrintMore
attribute [local go_sem] max2_int min2_int max_two min_two max_three min_three max_four min_four   -- for this text's walks alone
set_option linter.unusedVariables false
set_option linter.unusedSimpArgs false

/-! ### slices_Repeat_int64_int64: function 76 -/
/-- slices.Repeat at []int64: one element, up to 63 times. -/
def slices_Repeat_int64_int64.f (l0 : List Int) (a1 : Int) : Option (List Int) := if l0.length = 1 ∧ 1 ≤ a1 ∧ a1 < 64 then some (List.replicate a1.toNat (rd l0 0)) else none
theorem slices_Repeat_int64_int64.mul (n : Nat) (h : n < 64) : bits_Mul.f 1 n = some (0, (n : Int)) := by
  have h2 : ∀ m : Fin 64, bits_Mul.f 1 m.val = some (0, (m.val : Int)) := by decide +kernel
  exact h2 ⟨n, h⟩
/-- Cells stored one after another into a row of one's own. -/
theorem slices_Repeat_int64_int64.puts {e : Nat} {base : Nat} {ok : Nat → Prop} {g n cap : Nat} : ∀ (zs : List Int) (o : Nat) (w w0 : World) (xs : List Int), Kd.R (Kd.int .i64) e w base ok (.slice (some ⟨g, 0, none⟩) n cap) xs → n = xs.length → o + zs.length ≤ n → base ≤ g → Below base w0 w →
    ∃ xs', Kd.R (Kd.int .i64) e (w.setCells g o (zs.map (Value.int .i64))) base ok (.slice (some ⟨g, 0, none⟩) n cap) xs' ∧ xs'.length = xs.length ∧ (∀ i, i < o → xs'[i]? = xs[i]?) ∧ (∀ j, j < zs.length → xs'[o + j]? = zs[j]?) ∧ Below base w0 (w.setCells g o (zs.map (Value.int .i64)))
  | [], o, w, w0, xs, h, _, _, _, hb => ⟨xs, h, rfl, fun _ _ => rfl, fun j hj => absurd hj (Nat.not_lt_zero _), hb⟩
  | z :: zs, o, w, w0, xs, h, hn, ho, hg, hb => by
    subst hn
    have h1 := (Kd.R_put (enc := Value.int .i64) (h1 := fun _ => rfl) h (o : Int) z).1
    simp only [List.length_cons] at ho
    simp only [Int.toNat_natCast] at h1
    obtain ⟨xs', h2, h3, h4, h5, h6⟩ := slices_Repeat_int64_int64.puts zs (o + 1) _ w0 (xs.set o z) h1 (by simp) (by omega) hg (hb.setCell (p := ⟨g, o, none⟩) hg _)
    refine ⟨xs', h2, by rw [h3]; simp, fun i hi => ?_, fun j hj => ?_, h6⟩
    · rw [h4 i (by omega), List.getElem?_set_ne (by omega)]
    · cases j with
      | zero =>
        rw [Nat.add_zero, h4 o (by omega), List.getElem?_set_self (by omega)]
        rfl
      | succ j =>
        have := h5 j (by simpa using hj)
        rw [show o + (j + 1) = o + 1 + j by omega, this]
        rfl
/-- copy(xs[o:], ys), xs a row of one's own. -/
theorem slices_Repeat_int64_int64.copy {P : Program} {t ty e : TypeId} (hu : P.underlying t = some (.slice e)) (hs : (P.info? e).map (·.size) = some 1) {w w0 : World} {base : Nat} {ok : Nat → Prop} {g n cap : Nat} {xs : List Int}
    (h : Kd.R (Kd.int .i64) e w base ok (.slice (some ⟨g, 0, none⟩) n cap) xs) (hn : n = xs.length) (hg : base ≤ g) (hb : Below base w0 w) (o : Nat) (a : Addr) (sLen sCap c : Nat) (zs : List Int) (hz : zs.length = Nat.min sLen (n - o)) (ho : o ≤ n)
    (hsrc : ∀ j z, zs[j]? = some z → w.cell? (a.add j) = some (.int .i64 z)) :
    ∃ w' xs', (Builtin.copy_ #[t, t] ty #[.slice (some ⟨g, o, none⟩) (n - o) c, .slice (some a) sLen sCap]).run P w = .ok (.int .i64 (zs.length : Int)) w' ∧ Kd.R (Kd.int .i64) e w' base ok (.slice (some ⟨g, 0, none⟩) n cap) xs' ∧ xs'.length = xs.length ∧
      (∀ i, i < o → xs'[i]? = xs[i]?) ∧ (∀ j, j < zs.length → xs'[o + j]? = zs[j]?) ∧ Below base w0 w' := by
  have hfit : o + zs.length ≤ n := by
    have := Nat.min_le_right sLen (n - o)
    have h3 : zs.length ≤ n - o := by rw [hz]; exact this
    omega
  obtain ⟨xs', h2, h3, h4, h5, h6⟩ := slices_Repeat_int64_int64.puts zs o w w0 xs h hn hfit hg hb
  have hcell : ∀ j, j < zs.length → (w.cell? ⟨g, o + j, none⟩).isSome = true ∧ w.frozen? ⟨g, o + j, none⟩ = false := by
    intro j hj
    subst hn
    have := Kd.R_cell (enc := Value.int .i64) (h1 := fun _ => rfl) 0 h ((o + j : Nat) : Int) (by omega) (by omega)
    rw [Int.toNat_natCast] at this
    exact ⟨by rw [this.1]; rfl, this.2⟩
  have hr := run_copy_cells (P := P) w t t ty e g o (n - o) c a sLen sCap (zs.map (Value.int .i64)) hu hs (by rw [List.length_map]; exact hz)
    (fun j v hj => by
      rw [List.getElem?_map] at hj
      obtain ⟨z, hz, rfl⟩ := Option.map_eq_some_iff.1 hj
      exact hsrc j z hz)
    (fun j hj => (hcell j (by simpa using hj)).1) (fun j hj => (hcell j (by simpa using hj)).2)
    (fun v hv => by obtain ⟨z, _, rfl⟩ := List.mem_map.1 hv; rfl)
  rw [List.length_map] at hr
  exact ⟨_, xs', hr, h2, h3, h4, h5, h6⟩
set_option maxHeartbeats 8000000 in
set_option maxRecDepth 100000 in
theorem slices_Repeat_int64_int64.calls (A0 : Option Addr) (c0 : Nat) (l0 : List Int) (a1 : Int) (r : List Int) (w : World) (hr0 : Kd.C (Kd.int .i64) w A0 l0.length l0) (hc0 : l0.length ≤ c0) (h : slices_Repeat_int64_int64.f l0 a1 = some r) :
    Calls Try.prog 76 #[.slice A0 l0.length c0, .int .i64 a1] w fun e w' => ∃ v0_ : Value, e = .returned (v0_) ∧ Kd.R (Kd.int .i64) 2 w' w.heap.size (fun _ => True) v0_ r ∧ Below w.heap.size w w' := by
  unfold slices_Repeat_int64_int64.f at h
  by_cases hc : l0.length = 1 ∧ 1 ≤ a1 ∧ a1 < 64
  rotate_left
  · rw [if_neg hc] at h
    exact absurd h (by simp)
  rw [if_pos hc] at h
  obtain rfl := Option.some.inj h
  clear h
  obtain ⟨hl, h1, h2⟩ := hc
  obtain ⟨N, rfl⟩ := Int.eq_ofNat_of_zero_le (show 0 ≤ a1 by omega)
  obtain ⟨z, rfl⟩ := List.length_eq_one_iff.1 hl
  obtain ⟨ad, rfl, hcell⟩ := Kd.at_int hr0 0 (by omega) (by simp)
  have hN1 : 1 ≤ N := by omega
  have hN2 : N < 64 := by omega
  have hz : rd [z] 0 = z := rfl
  rw [hz] at hcell
  have hmul := Aside0.mk (slices_Repeat_int64_int64.mul N hN2)
  have HB := Aside0.mk (Below.refl w.heap.size w)
  have HC := Aside0.mk hcell
  have hc10 : decide ((N : Int) < 0) = false := decide_eq_false (by omega)
  have hw1 : IntKind.u64.wrap ((1 : Nat) : Int) = 1 := by decide
  have hw2 : IntKind.u64.wrap (N : Int) = (N : Int) := by
    have h3 : ∀ m : Fin 64, IntKind.u64.wrap (m.val : Int) = (m.val : Int) := by decide +kernel
    exact h3 ⟨N, hN2⟩
  have hw3 : IntKind.i64.wrap (N : Int) = (N : Int) := by
    have h3 : ∀ m : Fin 64, IntKind.i64.wrap (m.val : Int) = (m.val : Int) := by decide +kernel
    exact h3 ⟨N, hN2⟩
  have hc25 : decide ((N : Int) > 9223372036854775807) = false := decide_eq_false (by omega)
  clear h1 h2 hz hcell hr0
  go_enter Try.func76, Try.ntmps76
  go_wp2_with (first | (go_at_call 99; (with_reducible refine (bits_Mul.calls 1 (N : Int) 0 (N : Int) _ ?hm).mono ?_); (case hm => exact hmul.out); rintro e w' ⟨rfl, ⟨nd, rfl⟩⟩) | ((with_reducible refine gate_dst (N := 30) rfl ?_); refine Kd.R_make (Kd.int .i64) _ 2 rfl (N := 30) rfl 27 _ _ rfl (N : Int) rfl rfl Try.underlying27 (.int .i64 0) 8 info2 rfl (by decide) (by omega) (0 : Int) (ok := fun _ => True) (okp := fun _ => True) rfl (fun _ hk => hk) trivial (Int.natCast_nonneg N) (by rw [Int.toNat_natCast]; omega) (pw_below_drewN (Below.refl _ _) _) (Nat.le_refl _) ?_; intro v1 w1 ho5 hb hg_ hnew_; clear hg_ hnew_; (obtain ⟨xs, hxs⟩ : ∃ xs, xs = List.replicate (N : Int).toNat (0 : Int) := ⟨_, rfl⟩); rw [← hxs] at ho5; have hlx : xs.length = N := (by rw [hxs, List.length_replicate, Int.toNat_natCast]); clear hxs; (obtain ⟨g, cap, rfl, hgb, _, _⟩ := Kd.R_form ho5 (by omega)); rw [hlx]; rw [hlx] at ho5; have hcc := (Kd.R_reads' ho5).2.1; have HO := Aside0.mk (Kd.R_lower ho5 (below_size (pw_below_drewN (Below.refl w.heap.size w) nd))); have n1_ : Aside0 (Below w.heap.size w w1) := Aside0.mk hb; clear HB; have HB := n1_; replace hgb : w.heap.size ≤ g := hgb; clear n1_ hb ho5; (have HC1 := Aside0.mk (Lib.Below.cellOf HB.out HC.out (Nat.le_refl _))); clear HC; have HC := HC1; clear HC1) | ((with_reducible refine gate_builtin (b := .copy) (xs := #[.tmp 31, .tmp 32]) rfl ?_); (obtain ⟨w2, xs2, hr2, hR2, hl2, _, hj2, hb2⟩ := slices_Repeat_int64_int64.copy (P := Try.prog) (t := 27) (ty := 3) Try.underlying27 (by kernel_rfl) HO.out hlx.symm hgb HB.out 0 ad 1 c0 cap [z] (show 1 = Nat.min 1 N from (Nat.min_eq_left hN1).symm) (Nat.zero_le _) (fun j z' hj => by cases j with | zero => (obtain rfl := Option.some.inj hj; exact HC.out) | succ j => simp at hj)); (refine Lib.wpList_copy_run _ rfl _ _ 27 27 rfl _ _ rfl rfl hr2 ?_); have hz2 := hj2 0 (by simp); simp only [List.length_singleton]; have n0_ := Aside0.mk hR2; have n1_ := Aside0.mk hb2; clear HO HB hR2 hb2 hr2 hj2; have HO := n0_; have HB := n1_; clear n0_ n1_))
  have hwall : ∀ m : Nat, m < 64 → wrap64 (m : Int) = (m : Int) := fun m hm => by
    have h3 : ∀ m : Fin 64, wrap64 (m.val : Int) = (m.val : Int) := by decide +kernel
    exact h3 ⟨m, hm⟩
  go_loopg [8] N (fun kq v8 w' => ∃ (p : Nat) (xs : List Int), v8 = .int .i64 (p : Int) ∧ Aside0 (1 ≤ p ∧ p ≤ N ∧ N - p ≤ kq) ∧ Aside0 (kq ≤ N) ∧ Aside0 (xs.length = N ∧ ∀ i, i < p → xs[i]? = some z) ∧ Aside0 (Kd.R (Kd.int .i64) 2 w' w.heap.size (fun _ => True) (.slice (some ⟨g, 0, none⟩) N cap) xs) ∧ Aside0 (Below w.heap.size w w'))
  case atStart => exact ⟨1, xs2, rfl, ⟨Nat.le_refl _, hN1, by omega⟩, ⟨Nat.le_refl _⟩, ⟨by omega, fun i hi => by obtain rfl : i = 0 := (by omega); simpa using hz2⟩, ⟨HO.out⟩, ⟨HB.out⟩⟩
  case round =>
    clear HO HB hz2
    obtain ⟨p, xs, rfl, HP, HK1, HX, HO, HB⟩ := hrel
    by_cases hp : p < N
    · obtain ⟨hp1, hp2, hp3⟩ := HP.out
      obtain ⟨k1, rfl⟩ : ∃ k1, gk = k1 + 1 := ⟨gk - 1, by omega⟩
      have hc37 : decide ((p : Int) < (N : Int)) = true := decide_eq_true (by omega)
      have hs1 : ∀ W : World, (Instr.slice 27 (.slice (some ⟨g, 0, none⟩) N cap) (some (.int .i64 (p : Int))) none none).run Try.prog W = .ok (.slice (some ⟨g, p, none⟩) (N - p) (cap - p)) W := by
        intro W
        obtain ⟨i, hi, hz⟩ := Option.map_eq_some_iff.1 info2
        simp only [Prod.mk.injEq] at hz
        have := cut_from (P := Try.prog) 27 2 .i64 Try.underlying27 hi 1 hz.2.1 (some ⟨g, 0, none⟩) N cap (p : Int) (by omega) (by omega) W
        rw [this, Int.toNat_natCast, if_neg (by omega), Nat.mul_one]
        simp [add_at]
      have hs2 : ∀ W : World, (Instr.slice 27 (.slice (some ⟨g, 0, none⟩) N cap) none (some (.int .i64 (p : Int))) none).run Try.prog W = .ok (.slice (some ⟨g, 0, none⟩) p cap) W := by
        intro W
        obtain ⟨i, hi, hz⟩ := Option.map_eq_some_iff.1 info2
        have := cut_to (P := Try.prog) 27 2 .i64 Try.underlying27 hi (some ⟨g, 0, none⟩) N cap (p : Int) (by omega) (by omega) hcc W
        rw [this, Int.toNat_natCast]
      have hlz : (xs.take (Nat.min p (N - p))).length = Nat.min p (N - p) := by
        rw [List.length_take, HX.out.1]
        exact Nat.min_eq_left (Nat.le_trans (Nat.min_le_left _ _) hp2)
      have hm1 : Nat.min p (N - p) ≤ p := Nat.min_le_left _ _
      have hm2 : Nat.min p (N - p) ≤ N - p := Nat.min_le_right _ _
      have hm3 : 1 ≤ Nat.min p (N - p) := Nat.le_min.2 ⟨hp1, by omega⟩
      obtain ⟨m, hm⟩ : ∃ m, m = Nat.min p (N - p) := ⟨_, rfl⟩
      have hsrc : ∀ j z', (xs.take (Nat.min p (N - p)))[j]? = some z' → ∀ w' : World, Kd.R (Kd.int .i64) 2 w' w.heap.size (fun _ => True) (.slice (some ⟨g, 0, none⟩) N cap) xs → w'.cell? ((⟨g, 0, none⟩ : Addr).add j) = some (.int .i64 z') := by
        intro j z' hj w' hR
        have hjl : j < (xs.take (Nat.min p (N - p))).length := (List.getElem?_eq_some_iff.1 hj).1
        rw [List.getElem?_take_of_lt (by omega)] at hj
        have hlx := HX.out.1
        rw [← hlx] at hR
        have h7 := (Kd.R_cell (enc := Value.int .i64) (h1 := fun _ => rfl) (0 : Int) hR (j : Int) (by omega) (by omega)).1
        rw [Int.toNat_natCast] at h7
        rw [add_at, Nat.zero_add, h7]
        congr 2
        unfold rdOf
        rw [Int.toNat_natCast, List.getD_eq_getElem?_getD, hj]
        rfl
      go_wp2
      refine start_ (n := 10) (S := fun w' => True) (ds := []) #[false, false, false, false, false, false, false, false, false, false] (by kernel_rfl) rfl rfl trivial (fun hHeld => ?_)
      refine pure_ (i := 0) (N := some 38) (v := ?_) (a' := ?_) #[true, false, false, false, false, false, false, false, false, false] rfl rfl (by kernel_rfl) (fun _ _ _ h => h) (Or.inl ⟨by rfl, ?_⟩) ?_ ?_
      rotate_left
      · intro w'
        go_simp
        with_reducible rfl
      rotate_left
      · simp only [Act.put, List.setIfInBounds_toArray, List.set_cons_zero, List.set_cons_succ, i64_w, i32_w]
        rfl
      refine pure_ (i := 1) (N := some 39) (v := ?_) (a' := ?_) #[true, true, false, false, false, false, false, false, false, false] rfl rfl (by kernel_rfl) (fun _ _ _ h => h) (Or.inl ⟨by rfl, ?_⟩) ?_ ?_
      rotate_left
      · intro w'
        go_simp
        with_reducible rfl
      rotate_left
      · simp only [Act.put, List.setIfInBounds_toArray, List.set_cons_zero, List.set_cons_succ, i64_w, i32_w]
        rfl
      refine pure_ (i := 2) (N := some 40) (v := ?_) (a' := ?_) #[true, true, true, false, false, false, false, false, false, false] rfl rfl (by kernel_rfl) (fun _ _ _ h => h) (Or.inl ⟨by rfl, ?_⟩) ?_ ?_
      rotate_left
      · intro w'
        go_simp
        with_reducible rfl
      rotate_left
      · simp only [Act.put, List.setIfInBounds_toArray, List.set_cons_zero, List.set_cons_succ, i64_w, i32_w]
        rfl
      refine pure_ (i := 3) (N := some 41) (v := ?_) (a' := ?_) #[true, true, true, true, false, false, false, false, false, false] rfl rfl (by kernel_rfl) (fun _ _ _ h => h) (Or.inl ⟨by rfl, ?_⟩) ?_ ?_
      rotate_left
      · intro w'
        go_simp
        with_reducible rfl
      rotate_left
      · simp only [Act.put, List.setIfInBounds_toArray, List.set_cons_zero, List.set_cons_succ, i64_w, i32_w]
        rfl
      refine pure_ (i := 4) (N := some 42) (v := ?_) (a' := ?_) #[true, true, true, true, true, false, false, false, false, false] rfl rfl (by kernel_rfl) (fun _ _ _ h => h) (Or.inl ⟨by rfl, ?_⟩) ?_ ?_
      rotate_left
      · intro w'
        go_simp
        with_reducible rfl
      rotate_left
      · simp only [Act.put, List.setIfInBounds_toArray, List.set_cons_zero, List.set_cons_succ, i64_w, i32_w]
        rfl
      refine pure_ (i := 5) (N := some 43) (v := ?_) (a' := ?_) #[true, true, true, true, true, true, false, false, false, false] rfl rfl (by kernel_rfl) (fun _ _ _ h => h) (Or.inl ⟨by rfl, ?_⟩) ?_ ?_
      rotate_left
      · intro w'
        go_simp
        with_reducible rfl
      rotate_left
      · simp only [Act.put, List.setIfInBounds_toArray, List.set_cons_zero, List.set_cons_succ, i64_w, i32_w]
        rfl
      refine pure_ (i := 6) (N := some 44) (v := ?_) (a' := ?_) #[true, true, true, true, true, true, true, false, false, false] rfl rfl (by kernel_rfl) (fun _ _ _ h => h) (Or.inl ⟨by rfl, ?_⟩) ?_ ?_
      rotate_left
      · intro w'
        go_simp
        with_reducible rfl
      rotate_left
      · simp only [Act.put, List.setIfInBounds_toArray, List.set_cons_zero, List.set_cons_succ, i64_w, i32_w]
        rfl
      refine one_ (i := 7) (N := some 45) #[true, true, true, true, true, true, true, true, false, false] rfl rfl (by kernel_rfl) (by decide) (fun K hK => ?_)
      obtain ⟨w2, xs2, hr2, hR2, hl2, hi2, hj2, hb2⟩ := slices_Repeat_int64_int64.copy (P := Try.prog) (t := 27) (ty := 3) Try.underlying27 (by kernel_rfl) (Kd.R_drew HO.out) HX.out.1.symm hgb (below_drew HB.out) p ⟨g, 0, none⟩ p cap (cap - p) (xs.take (Nat.min p (N - p))) hlz hp2 (fun j z' hj => hsrc j z' hj _ (Kd.R_drew HO.out))
      rw [hlz, ← hm] at hr2
      refine value_ (w1 := w2) (v := .int .i64 (m : Int)) (by rfl) rfl ?_ ?_
      · go_simp
        try (rw [hr2]; rfl)
      refine hK.out _ _ trivial (fun hHeld => ?_)
      clear hK K
      refine norm_ (a' := ?_) ?_ ?_
      rotate_left
      · show Act.put _ (some 45) _ = _
        simp only [Act.put, List.setIfInBounds_toArray, List.set_cons_zero, List.set_cons_succ, i64_w, i32_w]
        rfl
      refine pure_ (i := 8) (N := some 46) (v := ?_) (a' := ?_) #[true, true, true, true, true, true, true, true, true, false] rfl rfl (by kernel_rfl) (fun _ _ _ h => h) (Or.inl ⟨by rfl, ?_⟩) ?_ ?_
      rotate_left
      · intro w'
        go_simp
        with_reducible rfl
      rotate_left
      · simp only [Act.put, List.setIfInBounds_toArray, List.set_cons_zero, List.set_cons_succ, i64_w, i32_w]
        rfl
      refine pure_ (i := 9) (N := some 8) (v := ?_) (a' := ?_) #[true, true, true, true, true, true, true, true, true, true] rfl rfl (by kernel_rfl) (fun _ _ _ h => h) (Or.inl ⟨by rfl, ?_⟩) ?_ ?_
      rotate_left
      · intro w'
        go_simp
        with_reducible rfl
      rotate_left
      · simp only [Act.put, List.setIfInBounds_toArray, List.set_cons_zero, List.set_cons_succ, i64_w, i32_w]
        rfl
      refine done_ (by kernel_rfl) ?_
      have n0_ := Aside0.mk hR2
      have n1_ := Aside0.mk hb2
      clear hr2 HO HB hR2 hb2
      have HO := n0_
      have HB := n1_
      clear n0_ n1_
      go_wp2
      go_roundg k1
      case measure => omega
      case rel =>
        refine ⟨p + m, xs2, ?_, ⟨by omega, by omega, by omega⟩, ⟨by have := HK1.out; omega⟩, ⟨by rw [hl2]; exact HX.out.1, fun i hi => ?_⟩, ⟨HO.out⟩, ⟨HB.out⟩⟩
        · first | (rw [hm]; done) | (rw [← Int.natCast_add, hwall _ (by omega)]; done) | (rw [hm, ← Int.natCast_add, hwall _ (by omega)])
        · by_cases h : i < p
          · rw [hi2 i h]; exact HX.out.2 i h
          · have h8 := hj2 (i - p) (by rw [hlz]; omega)
            rw [show p + (i - p) = i by omega] at h8
            rw [h8, List.getElem?_take_of_lt (by omega)]
            exact HX.out.2 _ (by omega)
    · obtain ⟨hp1, hp2, hp3⟩ := HP.out
      have hc37 : decide ((p : Int) < (N : Int)) = false := decide_eq_false (by omega)
      go_wp2
      go_ret
      refine ⟨_, rfl, ?_, HB.out⟩
      have e : xs = List.replicate (N : Int).toNat z := List.ext_getElem? fun i => by
        rw [List.getElem?_replicate, Int.toNat_natCast]
        by_cases hi : i < N
        · rw [if_pos hi]; exact HX.out.2 i (by omega)
        · rw [if_neg hi]; exact List.getElem?_eq_none (by have := HX.out.1; omega)
      have := HO.out
      rw [e] at this
      exact this

end Go.Proofs.Ytbgiddnffchnpaa.QFnBackoff
