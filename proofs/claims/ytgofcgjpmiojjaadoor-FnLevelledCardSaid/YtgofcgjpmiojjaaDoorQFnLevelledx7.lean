/- FnLevelled: functions that it reaches, with what they compute and the proof that they do; written by a program of this session (wip/myprint.py). -/
import Derived.Test.YtgofcgjpmiojjaaDoorQFnLevelledx0
import Derived.Test.YtgofcgjpmiojjaaDoorQFnLevelledx3
import Derived.Test.YtgofcgjpmiojjaaDoorQFnLevelledx4
import Derived.Test.YtgofcgjpmiojjaaDoorQFnLevelledx5
import Derived.Test.YtgofcgjpmiojjaaDoorQFnLevelledx6
namespace Go.Proofs.YtgofcgjpmiojjaaDoor.QFnLevelled
open Go.RowKit Go.Proofs.YtgofcgjpmiojjaaDoorW.PrintWords Go.Proofs.YtgofcgjpmiojjaaDoorW.PrintLast Go.Proofs.YtgofcgjpmiojjaaDoorW.PrintMore
attribute [local go_sem] max2_int min2_int max_two min_two max_three min_three max_four min_four   -- for this text's walks alone
set_option linter.unusedVariables false
set_option linter.unusedSimpArgs false

/-! ### impl_ReadLevelsText: function 50 -/
def impl_ReadLevelsText.l0 : Nat → ByteArray → List Int → Int → Int → Option (List Int × Bool)
  | 0, _, _, _, _ => none
  | k + 1, x0, x4, x8, x9 => if x9 < x8 then (if 0 ≤ x9 then (if x9 < (x0.size : Int) then (if (bt x0 x9) = 45 then (if x4.length < 17592186044416 then (impl_ReadLevelsText.l0 k x0 (x4 ++ [(-1)]) x8 (wrap64 (x9 + 1))) else (none)) else (if (bt x0 x9) = 48 then (if x4.length < 17592186044416 then (impl_ReadLevelsText.l0 k x0 (x4 ++ [0]) x8 (wrap64 (x9 + 1))) else (none)) else (if (bt x0 x9) = 43 then (if x4.length < 17592186044416 then (impl_ReadLevelsText.l0 k x0 (x4 ++ [1]) x8 (wrap64 (x9 + 1))) else (none)) else (some (([] : List Int), false))))) else (none)) else (none)) else ((impl_areLevels.f k x4).bind fun t332 => (if t332 = true then (some (x4, true)) else (some (([] : List Int), false))))
def impl_ReadLevelsText.f (k : Nat) (a0 : ByteArray) : Option (List Int × Bool) := impl_ReadLevelsText.l0 k a0 (([] : List Int)) (a0.size : Int) 0
theorem impl_ReadLevelsText.mono_l : ∀ k, (∀ y0 y1 y2 y3, LeO (impl_ReadLevelsText.l0 k y0 y1 y2 y3) (impl_ReadLevelsText.l0 (k + 1) y0 y1 y2 y3))
  | 0 => fun _ _ _ _ r h => by simp [impl_ReadLevelsText.l0] at h
  | k + 1 => by
    have ih0 := impl_ReadLevelsText.mono_l k
    · intro y0 y1 y2 y3
      unfold impl_ReadLevelsText.l0
      repeat' first
      | (with_reducible exact ih0 _ _ _ _)
      | (with_reducible exact impl_areLevels.mono _ _)
      | (with_reducible exact LeO.refl _)
      | (with_reducible exact LeO.none _)
      | (with_reducible refine LeO.ite ?_ ?_)
      | (with_reducible refine LeO.bind ?_ (fun _ => ?_))
      | exact ih0 _ _ _ _
      | exact impl_areLevels.mono _ _
      | exact LeO.none _
      | refine LeO.ite ?_ ?_
      | refine LeO.bind ?_ (fun _ => ?_)
theorem impl_ReadLevelsText.mono : ∀ a0 k, LeO (impl_ReadLevelsText.f k a0) (impl_ReadLevelsText.f (k + 1) a0) := by
  intro a0 k
  have ih0 := impl_ReadLevelsText.mono_l k
  unfold impl_ReadLevelsText.f
  repeat' first
      | (with_reducible exact ih0 _ _ _ _)
      | (with_reducible exact impl_areLevels.mono _ _)
      | (with_reducible exact LeO.refl _)
      | (with_reducible exact LeO.none _)
      | (with_reducible refine LeO.ite ?_ ?_)
      | (with_reducible refine LeO.bind ?_ (fun _ => ?_))
      | exact ih0 _ _ _ _
      | exact impl_areLevels.mono _ _
      | exact LeO.none _
      | refine LeO.ite ?_ ?_
      | refine LeO.bind ?_ (fun _ => ?_)
set_option maxHeartbeats 8000000 in
set_option maxRecDepth 100000 in
theorem impl_ReadLevelsText.calls (k : Nat) (a0 : ByteArray) (r1 : List Int) (r2 : Bool) (w : World) (h : impl_ReadLevelsText.f k a0 = some (r1, r2)) :
    Calls Tryd.prog 50 #[.string a0] w fun e w' => ∃ v0_ : Value, e = .returned (.tuple #[v0_, .bool r2]) ∧ Kd.R (Kd.int .i64) 2 w' w.heap.size (fun _ => True) v0_ r1 ∧ Below w.heap.size w w' := by
  have HB := Aside0.mk (Below.refl w.heap.size w)
  have H : (impl_ReadLevelsText.l0 k a0 (([] : List Int)) (a0.size : Int) 0) = some (r1, r2) := h
  clear h
  obtain ⟨y329, hy329⟩ : ∃ y_ : List Int, y_ = (([] : List Int)) := ⟨_, rfl⟩
  replace H : (impl_ReadLevelsText.l0 k a0 y329 (a0.size : Int) 0) = some (r1, r2) := by first | (rw [hy329]; with_reducible exact H) | (have H2_ := (Option.bind_some _ _).symm.trans H; rw [hy329]; with_reducible exact H2_) | (have H2_ := (Option.bind_some _ _).symm.trans H; with_reducible exact H2_) | with_reducible exact H | (rw [hy329]; exact H) | exact H
  have Ny329 := Aside0.mk hy329
  clear hy329
  have H' := Aside0.mk H
  clear H
  go_enter Tryd.func50, Tryd.ntmps50
  go_wp2_with (first | ((with_reducible refine gate_dst (N := 6) rfl ?_); refine Kd.R_lit (Kd.int .i64) _ 2 ?hg (N := 6) ?hd (xs := ([] : List Int)) (inner := []) (ok := fun _ => True) (okp := fun _ => True) ?hr ?hp (fun _ hk => hk) trivial (Below.refl _ _) (Nat.le_refl _) (by simp) ?_; (case hd => rfl); (case hg => rfl); (case hr => first | (go_simp; done) | (go_simp; rfl)); (case hp => exact (Reps.none _ _)); intro v330 w2 ho3 hb hg_ hnew_; clear hg_ hnew_; (first | rw [← Ny329.out] at ho3 | (simp only [Int.reduceToNat] at ho3; rw [← Ny329.out] at ho3)); have n0_ := Aside0.mk (Kd.R_lower ho3 (below_size (by repeat (first | (with_reducible first | exact HB.out | apply below_alloc | apply pw_below_drewN | apply below_drew1) | exact HB.out)))); have n1_ := Aside0.mk (below_step (by repeat (first | (with_reducible first | exact HB.out | apply below_alloc | apply pw_below_drewN | apply below_drew1) | exact HB.out)) hb); clear HB; have HO331 := n0_; have HB := n1_; clear n0_ n1_; clear hb ho3))
  go_loopg [4, 9] k (fun kq v4 v9 w' => ∃ (x4_1 : List Int) (x9_1 : Int), v9 = .int .i64 x9_1 ∧ Aside0 (impl_ReadLevelsText.l0 kq a0 x4_1 (a0.size : Int) x9_1 = some (r1, r2)) ∧ Aside0 (kq ≤ k) ∧ Aside0 (Kd.R (Kd.int .i64) 2 w' w.heap.size (fun _ => True) v4 x4_1) ∧ Aside0 (Below w.heap.size w w'))
  case atStart => exact ⟨(y329), (0), (by first | rfl | (simp; done) | (simp [*]; done)), H', ⟨Nat.le_refl _⟩, ⟨by (with_reducible repeat (first | apply Kd.R_alloc | apply Kd.R_drewN | apply Kd.R_drew)); exact HO331.out⟩, ⟨by repeat (first | (with_reducible first | exact HB.out | apply below_alloc | apply pw_below_drewN | apply below_drew1) | exact HB.out)⟩⟩
  case round =>
    clear H'
    try clear p2
    obtain ⟨x4_1, x9_1, rfl, HA, HK1, HO_4, HB⟩ := hrel
    cases gk with
    | zero => exact absurd HA.out (by simp [impl_ReadLevelsText.l0])
    | succ k1 =>
      have H := HA.out
      clear HA
      simp only [impl_ReadLevelsText.l0] at H
      by_cases c4 : x9_1 < (a0.size : Int)
      · rw [if_pos c4] at H
        have c4b0 : decide (x9_1 < (a0.size : Int)) = true := decide_eq_true c4
        clear c4
        by_cases c5 : 0 ≤ x9_1
        · rw [if_pos c5] at H
          have c5b0 : decide (0 ≤ x9_1) = true := decide_eq_true c5
          clear c5
          by_cases c6 : x9_1 < (a0.size : Int)
          · rw [if_pos c6] at H
            have c6b0 : decide (x9_1 < (a0.size : Int)) = true := decide_eq_true c6
            clear c6
            by_cases c8 : (bt a0 x9_1) = 45
            · rw [if_pos c8] at H
              have c8b0 : ((bt a0 x9_1) == 45) = true := beq_iff_eq.mpr c8
              have c8b1 : ((bt a0 x9_1) != 45) = false := bne_eq_false_iff_eq.mpr c8
              clear c8
              by_cases c9 : x4_1.length < 17592186044416
              · rw [if_pos c9] at H
                have LMc9 := Aside0.mk c9
                clear c9
                obtain ⟨y333, hy333⟩ : ∃ y_ : List Int, y_ = (x4_1 ++ [(-1)]) := ⟨_, rfl⟩
                replace H : (impl_ReadLevelsText.l0 k1 a0 y333 (a0.size : Int) (wrap64 (x9_1 + 1))) = some (r1, r2) := by first | (rw [hy333]; with_reducible exact H) | (have H2_ := (Option.bind_some _ _).symm.trans H; rw [hy333]; with_reducible exact H2_) | (have H2_ := (Option.bind_some _ _).symm.trans H; with_reducible exact H2_) | with_reducible exact H | (rw [hy333]; exact H) | exact H
                have Ny333 := Aside0.mk hy333
                clear hy333
                have H' := Aside0.mk H
                clear H
                have p7 : 0 ≤ (x9_1 : Int) := of_decide_eq_true (by first | (with_reducible assumption) | assumption)
                have q7 : x9_1 < (a0.size : Int) := of_decide_eq_true (by first | (with_reducible assumption) | assumption)
                have hx7 := bt_at a0 x9_1
                replace p7 := eq_true p7
                replace q7 := eq_true q7
                go_wp2_with (first | ((with_reducible refine gate_builtin (b := .append) (xs := #[.tmp 17, .tmp 18]) rfl ?_); at_builtin; refine Kd.R_append (Kd.int .i64) (w0 := w) w.heap.size rfl (.tmp 17) (.tmp 18) 22 2 (.int .i64 0) 8 rfl Tryd.underlying22 info2 rfl (by decide) (by omega) u4 x4_1 (-1) [.int .i64 (-1)] (fun _ => True) (fun _ => False) rfl rfl ?aP (fun _ hk => hk.elim) ?aF ?aO ?aB ?aS ?aL ?_; (case aP => exact rfl); (case aB => exact (by repeat (first | (with_reducible first | exact HB.out | apply below_alloc | apply pw_below_drewN | apply below_drew1) | exact HB.out))); (case aF => exact (fun _ _ => trivial)); (case aO => exact (by (with_reducible repeat (first | apply Kd.R_alloc | apply Kd.R_drewN | apply Kd.R_drew)); exact HO_4.out)); (case aS => exact (below_size (by repeat (first | (with_reducible first | exact HB.out | apply below_alloc | apply pw_below_drewN | apply below_drew1) | exact HB.out)))); (case aL => have := LMc9.out; omega); intro v334 w10 ho hb hg hat; rw [← Ny333.out] at ho; have n0_ := Aside0.mk (hb); have n1_ := Aside0.mk (ho); clear HB; clear HO_4; have HB := n0_; have HO335 := n1_; clear n0_ n1_; clear ho hb hg hat))
                go_roundg k1
                case measure => have := HK1.out; omega
                case rel => exact ⟨(y333), (wrap64 (x9_1 + 1)), (by first | rfl | (simp; done) | (simp [*]; done)), H', ⟨by have := HK1.out; omega⟩, ⟨by (with_reducible repeat (first | apply Kd.R_alloc | apply Kd.R_drewN | apply Kd.R_drew)); exact HO335.out⟩, ⟨by repeat (first | (with_reducible first | exact HB.out | apply below_alloc | apply pw_below_drewN | apply below_drew1) | exact HB.out)⟩⟩
              · rw [if_neg c9] at H
                exact absurd H (by simp)
            · rw [if_neg c8] at H
              have c8b0 : ((bt a0 x9_1) == 45) = false := beq_eq_false_iff_ne.mpr c8
              have c8b1 : ((bt a0 x9_1) != 45) = true := bne_iff_ne.mpr c8
              by_cases c11 : (bt a0 x9_1) = 48
              · rw [if_pos c11] at H
                have c11b0 : ((bt a0 x9_1) == 48) = true := beq_iff_eq.mpr c11
                have c11b1 : ((bt a0 x9_1) != 48) = false := bne_eq_false_iff_eq.mpr c11
                clear c11
                by_cases c12 : x4_1.length < 17592186044416
                · rw [if_pos c12] at H
                  have LMc12 := Aside0.mk c12
                  clear c12
                  obtain ⟨y336, hy336⟩ : ∃ y_ : List Int, y_ = (x4_1 ++ [0]) := ⟨_, rfl⟩
                  replace H : (impl_ReadLevelsText.l0 k1 a0 y336 (a0.size : Int) (wrap64 (x9_1 + 1))) = some (r1, r2) := by first | (rw [hy336]; with_reducible exact H) | (have H2_ := (Option.bind_some _ _).symm.trans H; rw [hy336]; with_reducible exact H2_) | (have H2_ := (Option.bind_some _ _).symm.trans H; with_reducible exact H2_) | with_reducible exact H | (rw [hy336]; exact H) | exact H
                  have Ny336 := Aside0.mk hy336
                  clear hy336
                  have H' := Aside0.mk H
                  clear H
                  have p7 : 0 ≤ (x9_1 : Int) := of_decide_eq_true (by first | (with_reducible assumption) | assumption)
                  have q7 : x9_1 < (a0.size : Int) := of_decide_eq_true (by first | (with_reducible assumption) | assumption)
                  have hx7 := bt_at a0 x9_1
                  replace p7 := eq_true p7
                  replace q7 := eq_true q7
                  go_wp2_with (first | ((with_reducible refine gate_builtin (b := .append) (xs := #[.tmp 22, .tmp 23]) rfl ?_); at_builtin; refine Kd.R_append (Kd.int .i64) (w0 := w) w.heap.size rfl (.tmp 22) (.tmp 23) 22 2 (.int .i64 0) 8 rfl Tryd.underlying22 info2 rfl (by decide) (by omega) u4 x4_1 0 [.int .i64 0] (fun _ => True) (fun _ => False) rfl rfl ?aP (fun _ hk => hk.elim) ?aF ?aO ?aB ?aS ?aL ?_; (case aP => exact rfl); (case aB => exact (by repeat (first | (with_reducible first | exact HB.out | apply below_alloc | apply pw_below_drewN | apply below_drew1) | exact HB.out))); (case aF => exact (fun _ _ => trivial)); (case aO => exact (by (with_reducible repeat (first | apply Kd.R_alloc | apply Kd.R_drewN | apply Kd.R_drew)); exact HO_4.out)); (case aS => exact (below_size (by repeat (first | (with_reducible first | exact HB.out | apply below_alloc | apply pw_below_drewN | apply below_drew1) | exact HB.out)))); (case aL => have := LMc12.out; omega); intro v337 w13 ho hb hg hat; rw [← Ny336.out] at ho; have n0_ := Aside0.mk (hb); have n1_ := Aside0.mk (ho); clear HB; clear HO_4; have HB := n0_; have HO338 := n1_; clear n0_ n1_; clear ho hb hg hat))
                  go_roundg k1
                  case measure => have := HK1.out; omega
                  case rel => exact ⟨(y336), (wrap64 (x9_1 + 1)), (by first | rfl | (simp; done) | (simp [*]; done)), H', ⟨by have := HK1.out; omega⟩, ⟨by (with_reducible repeat (first | apply Kd.R_alloc | apply Kd.R_drewN | apply Kd.R_drew)); exact HO338.out⟩, ⟨by repeat (first | (with_reducible first | exact HB.out | apply below_alloc | apply pw_below_drewN | apply below_drew1) | exact HB.out)⟩⟩
                · rw [if_neg c12] at H
                  exact absurd H (by simp)
              · rw [if_neg c11] at H
                have c11b0 : ((bt a0 x9_1) == 48) = false := beq_eq_false_iff_ne.mpr c11
                have c11b1 : ((bt a0 x9_1) != 48) = true := bne_iff_ne.mpr c11
                by_cases c14 : (bt a0 x9_1) = 43
                · rw [if_pos c14] at H
                  have c14b0 : ((bt a0 x9_1) == 43) = true := beq_iff_eq.mpr c14
                  have c14b1 : ((bt a0 x9_1) != 43) = false := bne_eq_false_iff_eq.mpr c14
                  clear c14
                  by_cases c15 : x4_1.length < 17592186044416
                  · rw [if_pos c15] at H
                    have LMc15 := Aside0.mk c15
                    clear c15
                    obtain ⟨y339, hy339⟩ : ∃ y_ : List Int, y_ = (x4_1 ++ [1]) := ⟨_, rfl⟩
                    replace H : (impl_ReadLevelsText.l0 k1 a0 y339 (a0.size : Int) (wrap64 (x9_1 + 1))) = some (r1, r2) := by first | (rw [hy339]; with_reducible exact H) | (have H2_ := (Option.bind_some _ _).symm.trans H; rw [hy339]; with_reducible exact H2_) | (have H2_ := (Option.bind_some _ _).symm.trans H; with_reducible exact H2_) | with_reducible exact H | (rw [hy339]; exact H) | exact H
                    have Ny339 := Aside0.mk hy339
                    clear hy339
                    have H' := Aside0.mk H
                    clear H
                    have p7 : 0 ≤ (x9_1 : Int) := of_decide_eq_true (by first | (with_reducible assumption) | assumption)
                    have q7 : x9_1 < (a0.size : Int) := of_decide_eq_true (by first | (with_reducible assumption) | assumption)
                    have hx7 := bt_at a0 x9_1
                    replace p7 := eq_true p7
                    replace q7 := eq_true q7
                    go_wp2_with (first | ((with_reducible refine gate_builtin (b := .append) (xs := #[.tmp 27, .tmp 28]) rfl ?_); at_builtin; refine Kd.R_append (Kd.int .i64) (w0 := w) w.heap.size rfl (.tmp 27) (.tmp 28) 22 2 (.int .i64 0) 8 rfl Tryd.underlying22 info2 rfl (by decide) (by omega) u4 x4_1 1 [.int .i64 1] (fun _ => True) (fun _ => False) rfl rfl ?aP (fun _ hk => hk.elim) ?aF ?aO ?aB ?aS ?aL ?_; (case aP => exact rfl); (case aB => exact (by repeat (first | (with_reducible first | exact HB.out | apply below_alloc | apply pw_below_drewN | apply below_drew1) | exact HB.out))); (case aF => exact (fun _ _ => trivial)); (case aO => exact (by (with_reducible repeat (first | apply Kd.R_alloc | apply Kd.R_drewN | apply Kd.R_drew)); exact HO_4.out)); (case aS => exact (below_size (by repeat (first | (with_reducible first | exact HB.out | apply below_alloc | apply pw_below_drewN | apply below_drew1) | exact HB.out)))); (case aL => have := LMc15.out; omega); intro v340 w16 ho hb hg hat; rw [← Ny339.out] at ho; have n0_ := Aside0.mk (hb); have n1_ := Aside0.mk (ho); clear HB; clear HO_4; have HB := n0_; have HO341 := n1_; clear n0_ n1_; clear ho hb hg hat))
                    go_roundg k1
                    case measure => have := HK1.out; omega
                    case rel => exact ⟨(y339), (wrap64 (x9_1 + 1)), (by first | rfl | (simp; done) | (simp [*]; done)), H', ⟨by have := HK1.out; omega⟩, ⟨by (with_reducible repeat (first | apply Kd.R_alloc | apply Kd.R_drewN | apply Kd.R_drew)); exact HO341.out⟩, ⟨by repeat (first | (with_reducible first | exact HB.out | apply below_alloc | apply pw_below_drewN | apply below_drew1) | exact HB.out)⟩⟩
                  · rw [if_neg c15] at H
                    exact absurd H (by simp)
                · rw [if_neg c14] at H
                  have c14b0 : ((bt a0 x9_1) == 43) = false := beq_eq_false_iff_ne.mpr c14
                  have c14b1 : ((bt a0 x9_1) != 43) = true := bne_iff_ne.mpr c14
                  simp only [Option.some.injEq, Prod.mk.injEq] at H
                  obtain ⟨rfl, rfl⟩ := H
                  have p7 : 0 ≤ (x9_1 : Int) := of_decide_eq_true (by first | (with_reducible assumption) | assumption)
                  have q7 : x9_1 < (a0.size : Int) := of_decide_eq_true (by first | (with_reducible assumption) | assumption)
                  have hx7 := bt_at a0 x9_1
                  replace p7 := eq_true p7
                  replace q7 := eq_true q7
                  go_wp2
                  go_ret2
                  exact ⟨_, by first | rfl | (simp [errW_none, errW_some] <;> rfl) | (simp [*, errW_none, errW_some] <;> rfl), by first | exact Kd.R_nil _ _ _ _ _ | exact Kd.N_nil _ _ _ _ _ | exact Kd.V_nil _ _ _ _ _ | exact Kd.Q_nil _ _ _ _ _ | exact Kd.S_nil _ _ _ _ _, by repeat (first | (with_reducible first | exact HB.out | apply below_alloc | apply pw_below_drewN | apply below_drew1) | exact HB.out)⟩
          · rw [if_neg c6] at H
            exact absurd H (by simp)
        · rw [if_neg c5] at H
          exact absurd H (by simp)
      · rw [if_neg c4] at H
        have c4b0 : decide (x9_1 < (a0.size : Int)) = false := decide_eq_false c4
        clear c4
        replace H := Option.bind_eq_some_iff.mp H
        obtain ⟨t332, A170, H⟩ := H
        replace H : (if t332 = true then (some (x4_1, true)) else (some (([] : List Int), false))) = some (r1, r2) := H
        have A17 := Aside0.mk A170
        clear A170
        by_cases c18 : t332 = true
        · subst c18
          have H1 : (some (x4_1, true)) = some (r1, r2) := by rw [if_pos rfl] at H; exact H
          clear H
          have H := H1
          clear H1
          simp only [Option.some.injEq, Prod.mk.injEq] at H
          obtain ⟨rfl, rfl⟩ := H
          obtain ⟨Ao19, co19, eo19⟩ := Kd.R_slice HO_4.out
          subst eo19
          go_wp2_with (first | ((with_reducible refine gate_callee (f := 92) rfl ?_); refine goesL_ (some 32) rfl rfl Tryd.func92 (by kernel_rfl) rfl #[.slice Ao19 x4_1.length co19] rfl (by (try simp only [List.map_toArray, List.map_cons, List.map_nil]); first | done | rfl | (simp only [List.length_drop, List.length_take]; rfl)) ?_; (with_reducible refine (impl_areLevels.calls k1 _ _ x4_1 true _ ?side1 ?side2 A17.out).mono ?_); (case side1 => repeat (first | exact (Kd.R_reads' HO_4.out).2.2 | (with_reducible refine Kd.C_alloc ?_ _) | (with_reducible refine Kd.C_drewN ?_ _) | (with_reducible refine Kd.C_drew ?_))); (case side2 => exact (Kd.R_reads' HO_4.out).2.1); rintro e w' ⟨rfl, ⟨nd, rfl⟩⟩; refine ⟨_, rfl, ?_⟩))
          go_ret2
          exact ⟨_, by first | rfl | (simp [errW_none, errW_some] <;> rfl) | (simp [*, errW_none, errW_some] <;> rfl), by (with_reducible repeat (first | apply Kd.R_alloc | apply Kd.R_drewN | apply Kd.R_drew)); exact HO_4.out, by repeat (first | (with_reducible first | exact HB.out | apply below_alloc | apply pw_below_drewN | apply below_drew1) | exact HB.out)⟩
        · replace c18 := Bool.eq_false_iff.mpr c18
          subst c18
          have H1 : (some (([] : List Int), false)) = some (r1, r2) := by rw [if_neg (show ¬ (false = true) by decide)] at H; exact H
          clear H
          have H := H1
          clear H1
          simp only [Option.some.injEq, Prod.mk.injEq] at H
          obtain ⟨rfl, rfl⟩ := H
          obtain ⟨Ao20, co20, eo20⟩ := Kd.R_slice HO_4.out
          subst eo20
          go_wp2_with (first | ((with_reducible refine gate_callee (f := 92) rfl ?_); refine goesL_ (some 32) rfl rfl Tryd.func92 (by kernel_rfl) rfl #[.slice Ao20 x4_1.length co20] rfl (by (try simp only [List.map_toArray, List.map_cons, List.map_nil]); first | done | rfl | (simp only [List.length_drop, List.length_take]; rfl)) ?_; (with_reducible refine (impl_areLevels.calls k1 _ _ x4_1 false _ ?side1 ?side2 A17.out).mono ?_); (case side1 => repeat (first | exact (Kd.R_reads' HO_4.out).2.2 | (with_reducible refine Kd.C_alloc ?_ _) | (with_reducible refine Kd.C_drewN ?_ _) | (with_reducible refine Kd.C_drew ?_))); (case side2 => exact (Kd.R_reads' HO_4.out).2.1); rintro e w' ⟨rfl, ⟨nd, rfl⟩⟩; refine ⟨_, rfl, ?_⟩))
          go_ret2
          exact ⟨_, by first | rfl | (simp [errW_none, errW_some] <;> rfl) | (simp [*, errW_none, errW_some] <;> rfl), by first | exact Kd.R_nil _ _ _ _ _ | exact Kd.N_nil _ _ _ _ _ | exact Kd.V_nil _ _ _ _ _ | exact Kd.Q_nil _ _ _ _ _ | exact Kd.S_nil _ _ _ _ _, by repeat (first | (with_reducible first | exact HB.out | apply below_alloc | apply pw_below_drewN | apply below_drew1) | exact HB.out)⟩

/-! ### laws_FnLevelled: function 11 -/
def laws_FnLevelled.j0 : Nat → Int → ByteArray → List Int → Int → Int → Bool → Option (Bool)
  | 0, _, _, _, _, _, _ => none
  | k + 1, x5, x6, x7, x15, x16, x117 => if x117 = true then (some false) else (if x5 = 2 then (if x15 < (-1) then (some false) else (if x16 > 1 then (some false) else (if (x7.length : Int) = (wrap64 (2 * (x6.size : Int))) then (if x5 = 4 then (if x15 = 0 then (some (decide (x16 ≤ 1))) else (some false)) else (some true)) else (some false)))) else (if x5 = 3 then (if x15 < (-1) then (some false) else (if x16 > 1 then (some false) else (if (x7.length : Int) = (wrap64 (2 * (x6.size : Int))) then (if x5 = 4 then (if x15 = 0 then (some (decide (x16 ≤ 1))) else (some false)) else (some true)) else (some false)))) else (if x5 = 4 then (if x15 = 0 then (some (decide (x16 ≤ 1))) else (some false)) else (some true))))
def laws_FnLevelled.f (k : Nat) (l0 : List Int) (l1 : List Int) : Option (Bool) := (laws_r8Long.f l0 l1).bind fun t342 => (if t342 = true then (some true) else ((laws_r8At.f l0 0 6).bind fun t343 => ((spec_R8Bits.f k l1 30).bind fun t344 => ((impl_LevelsOf.f k t343 t344).bind fun bt345 => ((impl_BitsOfLevels.f k t343 bt345.1).bind fun bt349 => ((impl_ReadLevels.f k t343 bt345.1).bind fun bt351 => ((impl_FirstWrong.f k t343 bt345.1).bind fun bt353 => ((impl_SumsOf.f k bt345.1).bind fun bt355 => ((impl_LevelsText.f k bt345.1).bind fun bt358 => ((impl_ReadLevelsText.f k bt358.1).bind fun bt360 => (if bt345.2 = true then (if bt349.2 = true then (if bt351.2 = true then (if bt353.2 = true then (laws_FnLevelled.j0 k t343 t344 bt345.1 bt355.1 bt355.2.1 true) else (if bt355.2.2 = true then (if bt358.2 = true then (if bt360.2 = true then (if bt349.1.toList = t344.toList then (if bt351.1.toList = t344.toList then ((laws_r8Nums.f k bt360.1 bt345.1).bind fun t364 => (if t364 = true then (if bt355.1 > 0 then (laws_FnLevelled.j0 k t343 t344 bt345.1 bt355.1 bt355.2.1 true) else (laws_FnLevelled.j0 k t343 t344 bt345.1 bt355.1 bt355.2.1 (decide (bt355.2.1 < 0)))) else (laws_FnLevelled.j0 k t343 t344 bt345.1 bt355.1 bt355.2.1 true))) else (laws_FnLevelled.j0 k t343 t344 bt345.1 bt355.1 bt355.2.1 true)) else (laws_FnLevelled.j0 k t343 t344 bt345.1 bt355.1 bt355.2.1 true)) else (laws_FnLevelled.j0 k t343 t344 bt345.1 bt355.1 bt355.2.1 true)) else (laws_FnLevelled.j0 k t343 t344 bt345.1 bt355.1 bt355.2.1 true)) else (laws_FnLevelled.j0 k t343 t344 bt345.1 bt355.1 bt355.2.1 true))) else (laws_FnLevelled.j0 k t343 t344 bt345.1 bt355.1 bt355.2.1 true)) else (laws_FnLevelled.j0 k t343 t344 bt345.1 bt355.1 bt355.2.1 true)) else (laws_FnLevelled.j0 k t343 t344 bt345.1 bt355.1 bt355.2.1 true))))))))))))
theorem laws_FnLevelled.mono_l : ∀ k, (∀ y0 y1 y2 y3 y4 y5, LeO (laws_FnLevelled.j0 k y0 y1 y2 y3 y4 y5) (laws_FnLevelled.j0 (k + 1) y0 y1 y2 y3 y4 y5))
  | 0 => fun _ _ _ _ _ _ r h => by simp [laws_FnLevelled.j0] at h
  | k + 1 => by
    have ih0 := laws_FnLevelled.mono_l k
    · intro y0 y1 y2 y3 y4 y5
      unfold laws_FnLevelled.j0
      repeat' first
      | (with_reducible exact ih0 _ _ _ _ _ _)
      | (with_reducible exact impl_BitsOfLevels.mono _ _ _)
      | (with_reducible exact impl_FirstWrong.mono _ _ _)
      | (with_reducible exact impl_LevelsOf.mono _ _ _)
      | (with_reducible exact impl_LevelsText.mono _ _)
      | (with_reducible exact impl_ReadLevels.mono _ _ _)
      | (with_reducible exact impl_ReadLevelsText.mono _ _)
      | (with_reducible exact impl_SumsOf.mono _ _)
      | (with_reducible exact laws_r8Nums.mono _ _ _)
      | (with_reducible exact spec_R8Bits.mono _ _ _)
      | (with_reducible exact LeO.refl _)
      | (with_reducible exact LeO.none _)
      | (with_reducible refine LeO.ite ?_ ?_)
      | (with_reducible refine LeO.bind ?_ (fun _ => ?_))
      | exact ih0 _ _ _ _ _ _
      | exact impl_BitsOfLevels.mono _ _ _
      | exact impl_FirstWrong.mono _ _ _
      | exact impl_LevelsOf.mono _ _ _
      | exact impl_LevelsText.mono _ _
      | exact impl_ReadLevels.mono _ _ _
      | exact impl_ReadLevelsText.mono _ _
      | exact impl_SumsOf.mono _ _
      | exact laws_r8Nums.mono _ _ _
      | exact spec_R8Bits.mono _ _ _
      | exact LeO.none _
      | refine LeO.ite ?_ ?_
      | refine LeO.bind ?_ (fun _ => ?_)
theorem laws_FnLevelled.mono : ∀ a0 a1 k, LeO (laws_FnLevelled.f k a0 a1) (laws_FnLevelled.f (k + 1) a0 a1) := by
  intro a0 a1 k
  have ih0 := laws_FnLevelled.mono_l k
  unfold laws_FnLevelled.f
  repeat' first
      | (with_reducible exact ih0 _ _ _ _ _ _)
      | (with_reducible exact impl_BitsOfLevels.mono _ _ _)
      | (with_reducible exact impl_FirstWrong.mono _ _ _)
      | (with_reducible exact impl_LevelsOf.mono _ _ _)
      | (with_reducible exact impl_LevelsText.mono _ _)
      | (with_reducible exact impl_ReadLevels.mono _ _ _)
      | (with_reducible exact impl_ReadLevelsText.mono _ _)
      | (with_reducible exact impl_SumsOf.mono _ _)
      | (with_reducible exact laws_r8Nums.mono _ _ _)
      | (with_reducible exact spec_R8Bits.mono _ _ _)
      | (with_reducible exact LeO.refl _)
      | (with_reducible exact LeO.none _)
      | (with_reducible refine LeO.ite ?_ ?_)
      | (with_reducible refine LeO.bind ?_ (fun _ => ?_))
      | exact ih0 _ _ _ _ _ _
      | exact impl_BitsOfLevels.mono _ _ _
      | exact impl_FirstWrong.mono _ _ _
      | exact impl_LevelsOf.mono _ _ _
      | exact impl_LevelsText.mono _ _
      | exact impl_ReadLevels.mono _ _ _
      | exact impl_ReadLevelsText.mono _ _
      | exact impl_SumsOf.mono _ _
      | exact laws_r8Nums.mono _ _ _
      | exact spec_R8Bits.mono _ _ _
      | exact LeO.none _
      | refine LeO.ite ?_ ?_
      | refine LeO.bind ?_ (fun _ => ?_)
set_option maxHeartbeats 8000000 in
set_option maxRecDepth 100000 in
theorem laws_FnLevelled.calls (k : Nat) (A0 : Option Addr) (c0 : Nat) (l0 : List Int) (A1 : Option Addr) (c1 : Nat) (l1 : List Int) (r : Bool) (w : World) (hr0 : Kd.C (Kd.int .u8) w A0 l0.length l0) (hc0 : l0.length ≤ c0) (hr1 : Kd.C (Kd.int .u8) w A1 l1.length l1) (hc1 : l1.length ≤ c1) (h : laws_FnLevelled.f k l0 l1 = some r) :
    Calls Tryd.prog 11 #[.slice A0 l0.length c0, .slice A1 l1.length c1] w fun e w' => e = .returned (.bool r) ∧ Below w.heap.size w w' := by
  have HR0 := Aside0.mk hr0
  have HC0 := Aside0.mk hc0
  clear hr0 hc0
  have HR1 := Aside0.mk hr1
  have HC1 := Aside0.mk hc1
  clear hr1 hc1
  have HB := Aside0.mk (Below.refl w.heap.size w)
  have H : ((laws_r8Long.f l0 l1).bind fun t342 => (if t342 = true then (some true) else ((laws_r8At.f l0 0 6).bind fun t343 => ((spec_R8Bits.f k l1 30).bind fun t344 => ((impl_LevelsOf.f k t343 t344).bind fun bt345 => ((impl_BitsOfLevels.f k t343 bt345.1).bind fun bt349 => ((impl_ReadLevels.f k t343 bt345.1).bind fun bt351 => ((impl_FirstWrong.f k t343 bt345.1).bind fun bt353 => ((impl_SumsOf.f k bt345.1).bind fun bt355 => ((impl_LevelsText.f k bt345.1).bind fun bt358 => ((impl_ReadLevelsText.f k bt358.1).bind fun bt360 => (if bt345.2 = true then (if bt349.2 = true then (if bt351.2 = true then (if bt353.2 = true then (laws_FnLevelled.j0 k t343 t344 bt345.1 bt355.1 bt355.2.1 true) else (if bt355.2.2 = true then (if bt358.2 = true then (if bt360.2 = true then (if bt349.1.toList = t344.toList then (if bt351.1.toList = t344.toList then ((laws_r8Nums.f k bt360.1 bt345.1).bind fun t364 => (if t364 = true then (if bt355.1 > 0 then (laws_FnLevelled.j0 k t343 t344 bt345.1 bt355.1 bt355.2.1 true) else (laws_FnLevelled.j0 k t343 t344 bt345.1 bt355.1 bt355.2.1 (decide (bt355.2.1 < 0)))) else (laws_FnLevelled.j0 k t343 t344 bt345.1 bt355.1 bt355.2.1 true))) else (laws_FnLevelled.j0 k t343 t344 bt345.1 bt355.1 bt355.2.1 true)) else (laws_FnLevelled.j0 k t343 t344 bt345.1 bt355.1 bt355.2.1 true)) else (laws_FnLevelled.j0 k t343 t344 bt345.1 bt355.1 bt355.2.1 true)) else (laws_FnLevelled.j0 k t343 t344 bt345.1 bt355.1 bt355.2.1 true)) else (laws_FnLevelled.j0 k t343 t344 bt345.1 bt355.1 bt355.2.1 true))) else (laws_FnLevelled.j0 k t343 t344 bt345.1 bt355.1 bt355.2.1 true)) else (laws_FnLevelled.j0 k t343 t344 bt345.1 bt355.1 bt355.2.1 true)) else (laws_FnLevelled.j0 k t343 t344 bt345.1 bt355.1 bt355.2.1 true))))))))))))) = some r := h
  clear h
  replace H := Option.bind_eq_some_iff.mp H
  obtain ⟨t342, A30, H⟩ := H
  replace H : (if t342 = true then (some true) else ((laws_r8At.f l0 0 6).bind fun t343 => ((spec_R8Bits.f k l1 30).bind fun t344 => ((impl_LevelsOf.f k t343 t344).bind fun bt345 => ((impl_BitsOfLevels.f k t343 bt345.1).bind fun bt349 => ((impl_ReadLevels.f k t343 bt345.1).bind fun bt351 => ((impl_FirstWrong.f k t343 bt345.1).bind fun bt353 => ((impl_SumsOf.f k bt345.1).bind fun bt355 => ((impl_LevelsText.f k bt345.1).bind fun bt358 => ((impl_ReadLevelsText.f k bt358.1).bind fun bt360 => (if bt345.2 = true then (if bt349.2 = true then (if bt351.2 = true then (if bt353.2 = true then (laws_FnLevelled.j0 k t343 t344 bt345.1 bt355.1 bt355.2.1 true) else (if bt355.2.2 = true then (if bt358.2 = true then (if bt360.2 = true then (if bt349.1.toList = t344.toList then (if bt351.1.toList = t344.toList then ((laws_r8Nums.f k bt360.1 bt345.1).bind fun t364 => (if t364 = true then (if bt355.1 > 0 then (laws_FnLevelled.j0 k t343 t344 bt345.1 bt355.1 bt355.2.1 true) else (laws_FnLevelled.j0 k t343 t344 bt345.1 bt355.1 bt355.2.1 (decide (bt355.2.1 < 0)))) else (laws_FnLevelled.j0 k t343 t344 bt345.1 bt355.1 bt355.2.1 true))) else (laws_FnLevelled.j0 k t343 t344 bt345.1 bt355.1 bt355.2.1 true)) else (laws_FnLevelled.j0 k t343 t344 bt345.1 bt355.1 bt355.2.1 true)) else (laws_FnLevelled.j0 k t343 t344 bt345.1 bt355.1 bt355.2.1 true)) else (laws_FnLevelled.j0 k t343 t344 bt345.1 bt355.1 bt355.2.1 true)) else (laws_FnLevelled.j0 k t343 t344 bt345.1 bt355.1 bt355.2.1 true))) else (laws_FnLevelled.j0 k t343 t344 bt345.1 bt355.1 bt355.2.1 true)) else (laws_FnLevelled.j0 k t343 t344 bt345.1 bt355.1 bt355.2.1 true)) else (laws_FnLevelled.j0 k t343 t344 bt345.1 bt355.1 bt355.2.1 true)))))))))))) = some r := H
  have A3 := Aside0.mk A30
  clear A30
  by_cases c4 : t342 = true
  · subst c4
    have H1 : (some true) = some r := by rw [if_pos rfl] at H; exact H
    clear H
    have H := H1
    clear H1
    obtain rfl := Option.some.inj H
    go_enter Tryd.func11, Tryd.ntmps11
    go_wp2_with (first | ((with_reducible refine gate_callee (f := 25) rfl ?_); refine goesL_ (some 24) rfl rfl Tryd.func25 (by kernel_rfl) rfl #[.slice A0 l0.length c0, .slice A1 l1.length c1] rfl (by (try simp only [List.map_toArray, List.map_cons, List.map_nil]); first | done | rfl | (simp only [List.length_drop, List.length_take]; rfl)) ?_; (with_reducible refine (laws_r8Long.calls _ _ l0 _ _ l1 true _ ?side1 ?side2 ?side3 ?side4 A3.out).mono ?_); (case side1 => repeat (first | exact HR0.out | (with_reducible refine Kd.C_alloc ?_ _) | (with_reducible refine Kd.C_drewN ?_ _) | (with_reducible refine Kd.C_drew ?_))); (case side2 => exact HC0.out); (case side3 => repeat (first | exact HR1.out | (with_reducible refine Kd.C_alloc ?_ _) | (with_reducible refine Kd.C_drewN ?_ _) | (with_reducible refine Kd.C_drew ?_))); (case side4 => exact HC1.out); rintro e w' ⟨rfl, ⟨nd, rfl⟩⟩; refine ⟨_, rfl, ?_⟩))
    go_ret
    exact ⟨by first | rfl | (simp [errW_none, errW_some] <;> rfl) | (simp [*, errW_none, errW_some] <;> rfl), by repeat (first | (with_reducible first | exact HB.out | apply below_alloc | apply pw_below_drewN | apply below_drew1) | exact HB.out)⟩
  · replace c4 := Bool.eq_false_iff.mpr c4
    subst c4
    have H1 : ((laws_r8At.f l0 0 6).bind fun t343 => ((spec_R8Bits.f k l1 30).bind fun t344 => ((impl_LevelsOf.f k t343 t344).bind fun bt345 => ((impl_BitsOfLevels.f k t343 bt345.1).bind fun bt349 => ((impl_ReadLevels.f k t343 bt345.1).bind fun bt351 => ((impl_FirstWrong.f k t343 bt345.1).bind fun bt353 => ((impl_SumsOf.f k bt345.1).bind fun bt355 => ((impl_LevelsText.f k bt345.1).bind fun bt358 => ((impl_ReadLevelsText.f k bt358.1).bind fun bt360 => (if bt345.2 = true then (if bt349.2 = true then (if bt351.2 = true then (if bt353.2 = true then (laws_FnLevelled.j0 k t343 t344 bt345.1 bt355.1 bt355.2.1 true) else (if bt355.2.2 = true then (if bt358.2 = true then (if bt360.2 = true then (if bt349.1.toList = t344.toList then (if bt351.1.toList = t344.toList then ((laws_r8Nums.f k bt360.1 bt345.1).bind fun t364 => (if t364 = true then (if bt355.1 > 0 then (laws_FnLevelled.j0 k t343 t344 bt345.1 bt355.1 bt355.2.1 true) else (laws_FnLevelled.j0 k t343 t344 bt345.1 bt355.1 bt355.2.1 (decide (bt355.2.1 < 0)))) else (laws_FnLevelled.j0 k t343 t344 bt345.1 bt355.1 bt355.2.1 true))) else (laws_FnLevelled.j0 k t343 t344 bt345.1 bt355.1 bt355.2.1 true)) else (laws_FnLevelled.j0 k t343 t344 bt345.1 bt355.1 bt355.2.1 true)) else (laws_FnLevelled.j0 k t343 t344 bt345.1 bt355.1 bt355.2.1 true)) else (laws_FnLevelled.j0 k t343 t344 bt345.1 bt355.1 bt355.2.1 true)) else (laws_FnLevelled.j0 k t343 t344 bt345.1 bt355.1 bt355.2.1 true))) else (laws_FnLevelled.j0 k t343 t344 bt345.1 bt355.1 bt355.2.1 true)) else (laws_FnLevelled.j0 k t343 t344 bt345.1 bt355.1 bt355.2.1 true)) else (laws_FnLevelled.j0 k t343 t344 bt345.1 bt355.1 bt355.2.1 true))))))))))) = some r := by rw [if_neg (show ¬ (false = true) by decide)] at H; exact H
    clear H
    have H := H1
    clear H1
    replace H := Option.bind_eq_some_iff.mp H
    obtain ⟨t343, A50, H⟩ := H
    replace H : ((spec_R8Bits.f k l1 30).bind fun t344 => ((impl_LevelsOf.f k t343 t344).bind fun bt345 => ((impl_BitsOfLevels.f k t343 bt345.1).bind fun bt349 => ((impl_ReadLevels.f k t343 bt345.1).bind fun bt351 => ((impl_FirstWrong.f k t343 bt345.1).bind fun bt353 => ((impl_SumsOf.f k bt345.1).bind fun bt355 => ((impl_LevelsText.f k bt345.1).bind fun bt358 => ((impl_ReadLevelsText.f k bt358.1).bind fun bt360 => (if bt345.2 = true then (if bt349.2 = true then (if bt351.2 = true then (if bt353.2 = true then (laws_FnLevelled.j0 k t343 t344 bt345.1 bt355.1 bt355.2.1 true) else (if bt355.2.2 = true then (if bt358.2 = true then (if bt360.2 = true then (if bt349.1.toList = t344.toList then (if bt351.1.toList = t344.toList then ((laws_r8Nums.f k bt360.1 bt345.1).bind fun t364 => (if t364 = true then (if bt355.1 > 0 then (laws_FnLevelled.j0 k t343 t344 bt345.1 bt355.1 bt355.2.1 true) else (laws_FnLevelled.j0 k t343 t344 bt345.1 bt355.1 bt355.2.1 (decide (bt355.2.1 < 0)))) else (laws_FnLevelled.j0 k t343 t344 bt345.1 bt355.1 bt355.2.1 true))) else (laws_FnLevelled.j0 k t343 t344 bt345.1 bt355.1 bt355.2.1 true)) else (laws_FnLevelled.j0 k t343 t344 bt345.1 bt355.1 bt355.2.1 true)) else (laws_FnLevelled.j0 k t343 t344 bt345.1 bt355.1 bt355.2.1 true)) else (laws_FnLevelled.j0 k t343 t344 bt345.1 bt355.1 bt355.2.1 true)) else (laws_FnLevelled.j0 k t343 t344 bt345.1 bt355.1 bt355.2.1 true))) else (laws_FnLevelled.j0 k t343 t344 bt345.1 bt355.1 bt355.2.1 true)) else (laws_FnLevelled.j0 k t343 t344 bt345.1 bt355.1 bt355.2.1 true)) else (laws_FnLevelled.j0 k t343 t344 bt345.1 bt355.1 bt355.2.1 true)))))))))) = some r := H
    have A5 := Aside0.mk A50
    clear A50
    replace H := Option.bind_eq_some_iff.mp H
    obtain ⟨t344, A60, H⟩ := H
    replace H : ((impl_LevelsOf.f k t343 t344).bind fun bt345 => ((impl_BitsOfLevels.f k t343 bt345.1).bind fun bt349 => ((impl_ReadLevels.f k t343 bt345.1).bind fun bt351 => ((impl_FirstWrong.f k t343 bt345.1).bind fun bt353 => ((impl_SumsOf.f k bt345.1).bind fun bt355 => ((impl_LevelsText.f k bt345.1).bind fun bt358 => ((impl_ReadLevelsText.f k bt358.1).bind fun bt360 => (if bt345.2 = true then (if bt349.2 = true then (if bt351.2 = true then (if bt353.2 = true then (laws_FnLevelled.j0 k t343 t344 bt345.1 bt355.1 bt355.2.1 true) else (if bt355.2.2 = true then (if bt358.2 = true then (if bt360.2 = true then (if bt349.1.toList = t344.toList then (if bt351.1.toList = t344.toList then ((laws_r8Nums.f k bt360.1 bt345.1).bind fun t364 => (if t364 = true then (if bt355.1 > 0 then (laws_FnLevelled.j0 k t343 t344 bt345.1 bt355.1 bt355.2.1 true) else (laws_FnLevelled.j0 k t343 t344 bt345.1 bt355.1 bt355.2.1 (decide (bt355.2.1 < 0)))) else (laws_FnLevelled.j0 k t343 t344 bt345.1 bt355.1 bt355.2.1 true))) else (laws_FnLevelled.j0 k t343 t344 bt345.1 bt355.1 bt355.2.1 true)) else (laws_FnLevelled.j0 k t343 t344 bt345.1 bt355.1 bt355.2.1 true)) else (laws_FnLevelled.j0 k t343 t344 bt345.1 bt355.1 bt355.2.1 true)) else (laws_FnLevelled.j0 k t343 t344 bt345.1 bt355.1 bt355.2.1 true)) else (laws_FnLevelled.j0 k t343 t344 bt345.1 bt355.1 bt355.2.1 true))) else (laws_FnLevelled.j0 k t343 t344 bt345.1 bt355.1 bt355.2.1 true)) else (laws_FnLevelled.j0 k t343 t344 bt345.1 bt355.1 bt355.2.1 true)) else (laws_FnLevelled.j0 k t343 t344 bt345.1 bt355.1 bt355.2.1 true))))))))) = some r := H
    have A6 := Aside0.mk A60
    clear A60
    replace H := Option.bind_eq_some_iff.mp H
    obtain ⟨⟨t345, t346⟩, A70, H⟩ := H
    replace H : ((impl_BitsOfLevels.f k t343 t345).bind fun bt349 => ((impl_ReadLevels.f k t343 t345).bind fun bt351 => ((impl_FirstWrong.f k t343 t345).bind fun bt353 => ((impl_SumsOf.f k t345).bind fun bt355 => ((impl_LevelsText.f k t345).bind fun bt358 => ((impl_ReadLevelsText.f k bt358.1).bind fun bt360 => (if t346 = true then (if bt349.2 = true then (if bt351.2 = true then (if bt353.2 = true then (laws_FnLevelled.j0 k t343 t344 t345 bt355.1 bt355.2.1 true) else (if bt355.2.2 = true then (if bt358.2 = true then (if bt360.2 = true then (if bt349.1.toList = t344.toList then (if bt351.1.toList = t344.toList then ((laws_r8Nums.f k bt360.1 t345).bind fun t364 => (if t364 = true then (if bt355.1 > 0 then (laws_FnLevelled.j0 k t343 t344 t345 bt355.1 bt355.2.1 true) else (laws_FnLevelled.j0 k t343 t344 t345 bt355.1 bt355.2.1 (decide (bt355.2.1 < 0)))) else (laws_FnLevelled.j0 k t343 t344 t345 bt355.1 bt355.2.1 true))) else (laws_FnLevelled.j0 k t343 t344 t345 bt355.1 bt355.2.1 true)) else (laws_FnLevelled.j0 k t343 t344 t345 bt355.1 bt355.2.1 true)) else (laws_FnLevelled.j0 k t343 t344 t345 bt355.1 bt355.2.1 true)) else (laws_FnLevelled.j0 k t343 t344 t345 bt355.1 bt355.2.1 true)) else (laws_FnLevelled.j0 k t343 t344 t345 bt355.1 bt355.2.1 true))) else (laws_FnLevelled.j0 k t343 t344 t345 bt355.1 bt355.2.1 true)) else (laws_FnLevelled.j0 k t343 t344 t345 bt355.1 bt355.2.1 true)) else (laws_FnLevelled.j0 k t343 t344 t345 bt355.1 bt355.2.1 true)))))))) = some r := H
    have A7 := Aside0.mk A70
    clear A70
    replace H := Option.bind_eq_some_iff.mp H
    obtain ⟨⟨t349, t350⟩, A80, H⟩ := H
    replace H : ((impl_ReadLevels.f k t343 t345).bind fun bt351 => ((impl_FirstWrong.f k t343 t345).bind fun bt353 => ((impl_SumsOf.f k t345).bind fun bt355 => ((impl_LevelsText.f k t345).bind fun bt358 => ((impl_ReadLevelsText.f k bt358.1).bind fun bt360 => (if t346 = true then (if t350 = true then (if bt351.2 = true then (if bt353.2 = true then (laws_FnLevelled.j0 k t343 t344 t345 bt355.1 bt355.2.1 true) else (if bt355.2.2 = true then (if bt358.2 = true then (if bt360.2 = true then (if t349.toList = t344.toList then (if bt351.1.toList = t344.toList then ((laws_r8Nums.f k bt360.1 t345).bind fun t364 => (if t364 = true then (if bt355.1 > 0 then (laws_FnLevelled.j0 k t343 t344 t345 bt355.1 bt355.2.1 true) else (laws_FnLevelled.j0 k t343 t344 t345 bt355.1 bt355.2.1 (decide (bt355.2.1 < 0)))) else (laws_FnLevelled.j0 k t343 t344 t345 bt355.1 bt355.2.1 true))) else (laws_FnLevelled.j0 k t343 t344 t345 bt355.1 bt355.2.1 true)) else (laws_FnLevelled.j0 k t343 t344 t345 bt355.1 bt355.2.1 true)) else (laws_FnLevelled.j0 k t343 t344 t345 bt355.1 bt355.2.1 true)) else (laws_FnLevelled.j0 k t343 t344 t345 bt355.1 bt355.2.1 true)) else (laws_FnLevelled.j0 k t343 t344 t345 bt355.1 bt355.2.1 true))) else (laws_FnLevelled.j0 k t343 t344 t345 bt355.1 bt355.2.1 true)) else (laws_FnLevelled.j0 k t343 t344 t345 bt355.1 bt355.2.1 true)) else (laws_FnLevelled.j0 k t343 t344 t345 bt355.1 bt355.2.1 true))))))) = some r := H
    have A8 := Aside0.mk A80
    clear A80
    replace H := Option.bind_eq_some_iff.mp H
    obtain ⟨⟨t351, t352⟩, A90, H⟩ := H
    replace H : ((impl_FirstWrong.f k t343 t345).bind fun bt353 => ((impl_SumsOf.f k t345).bind fun bt355 => ((impl_LevelsText.f k t345).bind fun bt358 => ((impl_ReadLevelsText.f k bt358.1).bind fun bt360 => (if t346 = true then (if t350 = true then (if t352 = true then (if bt353.2 = true then (laws_FnLevelled.j0 k t343 t344 t345 bt355.1 bt355.2.1 true) else (if bt355.2.2 = true then (if bt358.2 = true then (if bt360.2 = true then (if t349.toList = t344.toList then (if t351.toList = t344.toList then ((laws_r8Nums.f k bt360.1 t345).bind fun t364 => (if t364 = true then (if bt355.1 > 0 then (laws_FnLevelled.j0 k t343 t344 t345 bt355.1 bt355.2.1 true) else (laws_FnLevelled.j0 k t343 t344 t345 bt355.1 bt355.2.1 (decide (bt355.2.1 < 0)))) else (laws_FnLevelled.j0 k t343 t344 t345 bt355.1 bt355.2.1 true))) else (laws_FnLevelled.j0 k t343 t344 t345 bt355.1 bt355.2.1 true)) else (laws_FnLevelled.j0 k t343 t344 t345 bt355.1 bt355.2.1 true)) else (laws_FnLevelled.j0 k t343 t344 t345 bt355.1 bt355.2.1 true)) else (laws_FnLevelled.j0 k t343 t344 t345 bt355.1 bt355.2.1 true)) else (laws_FnLevelled.j0 k t343 t344 t345 bt355.1 bt355.2.1 true))) else (laws_FnLevelled.j0 k t343 t344 t345 bt355.1 bt355.2.1 true)) else (laws_FnLevelled.j0 k t343 t344 t345 bt355.1 bt355.2.1 true)) else (laws_FnLevelled.j0 k t343 t344 t345 bt355.1 bt355.2.1 true)))))) = some r := H
    have A9 := Aside0.mk A90
    clear A90
    replace H := Option.bind_eq_some_iff.mp H
    obtain ⟨⟨t353, t354⟩, A100, H⟩ := H
    replace H : ((impl_SumsOf.f k t345).bind fun bt355 => ((impl_LevelsText.f k t345).bind fun bt358 => ((impl_ReadLevelsText.f k bt358.1).bind fun bt360 => (if t346 = true then (if t350 = true then (if t352 = true then (if t354 = true then (laws_FnLevelled.j0 k t343 t344 t345 bt355.1 bt355.2.1 true) else (if bt355.2.2 = true then (if bt358.2 = true then (if bt360.2 = true then (if t349.toList = t344.toList then (if t351.toList = t344.toList then ((laws_r8Nums.f k bt360.1 t345).bind fun t364 => (if t364 = true then (if bt355.1 > 0 then (laws_FnLevelled.j0 k t343 t344 t345 bt355.1 bt355.2.1 true) else (laws_FnLevelled.j0 k t343 t344 t345 bt355.1 bt355.2.1 (decide (bt355.2.1 < 0)))) else (laws_FnLevelled.j0 k t343 t344 t345 bt355.1 bt355.2.1 true))) else (laws_FnLevelled.j0 k t343 t344 t345 bt355.1 bt355.2.1 true)) else (laws_FnLevelled.j0 k t343 t344 t345 bt355.1 bt355.2.1 true)) else (laws_FnLevelled.j0 k t343 t344 t345 bt355.1 bt355.2.1 true)) else (laws_FnLevelled.j0 k t343 t344 t345 bt355.1 bt355.2.1 true)) else (laws_FnLevelled.j0 k t343 t344 t345 bt355.1 bt355.2.1 true))) else (laws_FnLevelled.j0 k t343 t344 t345 bt355.1 bt355.2.1 true)) else (laws_FnLevelled.j0 k t343 t344 t345 bt355.1 bt355.2.1 true)) else (laws_FnLevelled.j0 k t343 t344 t345 bt355.1 bt355.2.1 true))))) = some r := H
    have A10 := Aside0.mk A100
    clear A100
    replace H := Option.bind_eq_some_iff.mp H
    obtain ⟨⟨t355, t356, t357⟩, A110, H⟩ := H
    replace H : ((impl_LevelsText.f k t345).bind fun bt358 => ((impl_ReadLevelsText.f k bt358.1).bind fun bt360 => (if t346 = true then (if t350 = true then (if t352 = true then (if t354 = true then (laws_FnLevelled.j0 k t343 t344 t345 t355 t356 true) else (if t357 = true then (if bt358.2 = true then (if bt360.2 = true then (if t349.toList = t344.toList then (if t351.toList = t344.toList then ((laws_r8Nums.f k bt360.1 t345).bind fun t364 => (if t364 = true then (if t355 > 0 then (laws_FnLevelled.j0 k t343 t344 t345 t355 t356 true) else (laws_FnLevelled.j0 k t343 t344 t345 t355 t356 (decide (t356 < 0)))) else (laws_FnLevelled.j0 k t343 t344 t345 t355 t356 true))) else (laws_FnLevelled.j0 k t343 t344 t345 t355 t356 true)) else (laws_FnLevelled.j0 k t343 t344 t345 t355 t356 true)) else (laws_FnLevelled.j0 k t343 t344 t345 t355 t356 true)) else (laws_FnLevelled.j0 k t343 t344 t345 t355 t356 true)) else (laws_FnLevelled.j0 k t343 t344 t345 t355 t356 true))) else (laws_FnLevelled.j0 k t343 t344 t345 t355 t356 true)) else (laws_FnLevelled.j0 k t343 t344 t345 t355 t356 true)) else (laws_FnLevelled.j0 k t343 t344 t345 t355 t356 true)))) = some r := H
    have A11 := Aside0.mk A110
    clear A110
    replace H := Option.bind_eq_some_iff.mp H
    obtain ⟨⟨t358, t359⟩, A120, H⟩ := H
    replace H : ((impl_ReadLevelsText.f k t358).bind fun bt360 => (if t346 = true then (if t350 = true then (if t352 = true then (if t354 = true then (laws_FnLevelled.j0 k t343 t344 t345 t355 t356 true) else (if t357 = true then (if t359 = true then (if bt360.2 = true then (if t349.toList = t344.toList then (if t351.toList = t344.toList then ((laws_r8Nums.f k bt360.1 t345).bind fun t364 => (if t364 = true then (if t355 > 0 then (laws_FnLevelled.j0 k t343 t344 t345 t355 t356 true) else (laws_FnLevelled.j0 k t343 t344 t345 t355 t356 (decide (t356 < 0)))) else (laws_FnLevelled.j0 k t343 t344 t345 t355 t356 true))) else (laws_FnLevelled.j0 k t343 t344 t345 t355 t356 true)) else (laws_FnLevelled.j0 k t343 t344 t345 t355 t356 true)) else (laws_FnLevelled.j0 k t343 t344 t345 t355 t356 true)) else (laws_FnLevelled.j0 k t343 t344 t345 t355 t356 true)) else (laws_FnLevelled.j0 k t343 t344 t345 t355 t356 true))) else (laws_FnLevelled.j0 k t343 t344 t345 t355 t356 true)) else (laws_FnLevelled.j0 k t343 t344 t345 t355 t356 true)) else (laws_FnLevelled.j0 k t343 t344 t345 t355 t356 true))) = some r := H
    have A12 := Aside0.mk A120
    clear A120
    replace H := Option.bind_eq_some_iff.mp H
    obtain ⟨⟨t360, t361⟩, A130, H⟩ := H
    replace H : (if t346 = true then (if t350 = true then (if t352 = true then (if t354 = true then (laws_FnLevelled.j0 k t343 t344 t345 t355 t356 true) else (if t357 = true then (if t359 = true then (if t361 = true then (if t349.toList = t344.toList then (if t351.toList = t344.toList then ((laws_r8Nums.f k t360 t345).bind fun t364 => (if t364 = true then (if t355 > 0 then (laws_FnLevelled.j0 k t343 t344 t345 t355 t356 true) else (laws_FnLevelled.j0 k t343 t344 t345 t355 t356 (decide (t356 < 0)))) else (laws_FnLevelled.j0 k t343 t344 t345 t355 t356 true))) else (laws_FnLevelled.j0 k t343 t344 t345 t355 t356 true)) else (laws_FnLevelled.j0 k t343 t344 t345 t355 t356 true)) else (laws_FnLevelled.j0 k t343 t344 t345 t355 t356 true)) else (laws_FnLevelled.j0 k t343 t344 t345 t355 t356 true)) else (laws_FnLevelled.j0 k t343 t344 t345 t355 t356 true))) else (laws_FnLevelled.j0 k t343 t344 t345 t355 t356 true)) else (laws_FnLevelled.j0 k t343 t344 t345 t355 t356 true)) else (laws_FnLevelled.j0 k t343 t344 t345 t355 t356 true)) = some r := H
    have A13 := Aside0.mk A130
    clear A130
    have HC14 := Aside0.mk H
    clear H
    go_enter Tryd.func11, Tryd.ntmps11
    go_upto_region 12 with (first | ((with_reducible refine gate_callee (f := 25) rfl ?_); refine goesL_ (some 24) rfl rfl Tryd.func25 (by kernel_rfl) rfl #[.slice A0 l0.length c0, .slice A1 l1.length c1] rfl (by (try simp only [List.map_toArray, List.map_cons, List.map_nil]); first | done | rfl | (simp only [List.length_drop, List.length_take]; rfl)) ?_; (with_reducible refine (laws_r8Long.calls _ _ l0 _ _ l1 false _ ?side1 ?side2 ?side3 ?side4 A3.out).mono ?_); (case side1 => repeat (first | exact HR0.out | (with_reducible refine Kd.C_alloc ?_ _) | (with_reducible refine Kd.C_drewN ?_ _) | (with_reducible refine Kd.C_drew ?_))); (case side2 => exact HC0.out); (case side3 => repeat (first | exact HR1.out | (with_reducible refine Kd.C_alloc ?_ _) | (with_reducible refine Kd.C_drewN ?_ _) | (with_reducible refine Kd.C_drew ?_))); (case side4 => exact HC1.out); rintro e w' ⟨rfl, ⟨nd, rfl⟩⟩; refine ⟨_, rfl, ?_⟩) | ((with_reducible refine gate_callee (f := 28) rfl ?_); refine goesL_ (some 26) rfl rfl Tryd.func28 (by kernel_rfl) rfl #[.slice A0 l0.length c0, .int .i64 0, .int .i64 6] rfl (by (try simp only [List.map_toArray, List.map_cons, List.map_nil]); first | done | rfl | (simp only [List.length_drop, List.length_take]; rfl)) ?_; (with_reducible refine (laws_r8At.calls _ _ l0 0 6 t343 _ ?side1 ?side2 A5.out).mono ?_); (case side1 => repeat (first | exact HR0.out | (with_reducible refine Kd.C_alloc ?_ _) | (with_reducible refine Kd.C_drewN ?_ _) | (with_reducible refine Kd.C_drew ?_))); (case side2 => exact HC0.out); rintro e w' ⟨rfl, ⟨nd, rfl⟩⟩; refine ⟨_, rfl, ?_⟩) | ((with_reducible refine gate_callee (f := 27) rfl ?_); refine goesL_ (some 28) rfl rfl Tryd.func27 (by kernel_rfl) rfl #[.slice A1 l1.length c1, .int .i64 30] rfl (by (try simp only [List.map_toArray, List.map_cons, List.map_nil]); first | done | rfl | (simp only [List.length_drop, List.length_take]; rfl)) ?_; (with_reducible refine (spec_R8Bits.calls k _ _ l1 30 t344 _ ?side1 ?side2 A6.out).mono ?_); (case side1 => repeat (first | exact HR1.out | (with_reducible refine Kd.C_alloc ?_ _) | (with_reducible refine Kd.C_drewN ?_ _) | (with_reducible refine Kd.C_drew ?_))); (case side2 => exact HC1.out); rintro e w15 ⟨rfl, hb⟩; refine ⟨_, rfl, ?_⟩; have n0_ := Aside0.mk (below_step (by repeat (first | (with_reducible first | exact HB.out | apply below_alloc | apply pw_below_drewN | apply below_drew1) | exact HB.out)) hb); clear HB; have HB := n0_; clear n0_; (try clear hb); (try clear hb2); (try clear hk); (try clear hi)) | ((with_reducible refine gate_callee (f := 16) rfl ?_); refine goesL_ (some 32) rfl rfl Tryd.func16 (by kernel_rfl) rfl #[.int .i64 t343, .string t344] rfl (by (try simp only [List.map_toArray, List.map_cons, List.map_nil]); first | done | rfl | (simp only [List.length_drop, List.length_take]; rfl)) ?_; (with_reducible refine (impl_LevelsOf.calls k t343 t344 t345 t346 _ A7.out).mono ?_); rintro e w16 ⟨v347, rfl, ho0, hb⟩; refine ⟨_, rfl, ?_⟩; have n0_ := Aside0.mk (Kd.R_lower ho0 (below_size (by repeat (first | (with_reducible first | exact HB.out | apply below_alloc | apply pw_below_drewN | apply below_drew1) | exact HB.out)))); have n1_ := Aside0.mk (below_step (by repeat (first | (with_reducible first | exact HB.out | apply below_alloc | apply pw_below_drewN | apply below_drew1) | exact HB.out)) hb); clear HB; have HO348 := n0_; have HB := n1_; clear n0_ n1_; (try clear hb); (try clear hb2); (try clear hk); (try clear hi); (try clear ho0); obtain ⟨Ao17, co17, eo17⟩ := Kd.R_slice HO348.out; subst eo17) | ((with_reducible refine gate_callee (f := 46) rfl ?_); refine goesL_ (some 38) rfl rfl Tryd.func46 (by kernel_rfl) rfl #[.int .i64 t343, .slice Ao17 t345.length co17] rfl (by (try simp only [List.map_toArray, List.map_cons, List.map_nil]); first | done | rfl | (simp only [List.length_drop, List.length_take]; rfl)) ?_; (with_reducible refine (impl_BitsOfLevels.calls k t343 _ _ t345 t349 t350 _ ?side1 ?side2 A8.out).mono ?_); (case side1 => repeat (first | exact (Kd.R_reads' HO348.out).2.2 | (with_reducible refine Kd.C_alloc ?_ _) | (with_reducible refine Kd.C_drewN ?_ _) | (with_reducible refine Kd.C_drew ?_))); (case side2 => exact (Kd.R_reads' HO348.out).2.1); rintro e w18 ⟨rfl, hb⟩; refine ⟨_, rfl, ?_⟩; have n0_ := Aside0.mk (Kd.R_below (by (with_reducible repeat (first | apply Kd.R_alloc | apply Kd.R_drewN | apply Kd.R_drew)); exact HO348.out) hb); have n1_ := Aside0.mk (below_step (by repeat (first | (with_reducible first | exact HB.out | apply below_alloc | apply pw_below_drewN | apply below_drew1) | exact HB.out)) hb); clear HO348; clear HB; have HO348 := n0_; have HB := n1_; clear n0_ n1_; (try clear hb); (try clear hb2); (try clear hk); (try clear hi)) | ((with_reducible refine gate_callee (f := 42) rfl ?_); refine goesL_ (some 44) rfl rfl Tryd.func42 (by kernel_rfl) rfl #[.int .i64 t343, .slice Ao17 t345.length co17] rfl (by (try simp only [List.map_toArray, List.map_cons, List.map_nil]); first | done | rfl | (simp only [List.length_drop, List.length_take]; rfl)) ?_; (with_reducible refine (impl_ReadLevels.calls k t343 _ _ t345 t351 t352 _ ?side1 ?side2 A9.out).mono ?_); (case side1 => repeat (first | exact (Kd.R_reads' HO348.out).2.2 | (with_reducible refine Kd.C_alloc ?_ _) | (with_reducible refine Kd.C_drewN ?_ _) | (with_reducible refine Kd.C_drew ?_))); (case side2 => exact (Kd.R_reads' HO348.out).2.1); rintro e w19 ⟨rfl, hb⟩; refine ⟨_, rfl, ?_⟩; have n0_ := Aside0.mk (Kd.R_below (by (with_reducible repeat (first | apply Kd.R_alloc | apply Kd.R_drewN | apply Kd.R_drew)); exact HO348.out) hb); have n1_ := Aside0.mk (below_step (by repeat (first | (with_reducible first | exact HB.out | apply below_alloc | apply pw_below_drewN | apply below_drew1) | exact HB.out)) hb); clear HO348; clear HB; have HO348 := n0_; have HB := n1_; clear n0_ n1_; (try clear hb); (try clear hb2); (try clear hk); (try clear hi)) | ((with_reducible refine gate_callee (f := 45) rfl ?_); refine goesL_ (some 50) rfl rfl Tryd.func45 (by kernel_rfl) rfl #[.int .i64 t343, .slice Ao17 t345.length co17] rfl (by (try simp only [List.map_toArray, List.map_cons, List.map_nil]); first | done | rfl | (simp only [List.length_drop, List.length_take]; rfl)) ?_; (with_reducible refine (impl_FirstWrong.calls k t343 _ _ t345 t353 t354 _ ?side1 ?side2 A10.out).mono ?_); (case side1 => repeat (first | exact (Kd.R_reads' HO348.out).2.2 | (with_reducible refine Kd.C_alloc ?_ _) | (with_reducible refine Kd.C_drewN ?_ _) | (with_reducible refine Kd.C_drew ?_))); (case side2 => exact (Kd.R_reads' HO348.out).2.1); rintro e w20 ⟨rfl, hb⟩; refine ⟨_, rfl, ?_⟩; have n0_ := Aside0.mk (Kd.R_below (by (with_reducible repeat (first | apply Kd.R_alloc | apply Kd.R_drewN | apply Kd.R_drew)); exact HO348.out) hb); have n1_ := Aside0.mk (below_step (by repeat (first | (with_reducible first | exact HB.out | apply below_alloc | apply pw_below_drewN | apply below_drew1) | exact HB.out)) hb); clear HO348; clear HB; have HO348 := n0_; have HB := n1_; clear n0_ n1_; (try clear hb); (try clear hb2); (try clear hk); (try clear hi)) | ((with_reducible refine gate_callee (f := 48) rfl ?_); refine goesL_ (some 55) rfl rfl Tryd.func48 (by kernel_rfl) rfl #[.slice Ao17 t345.length co17] rfl (by (try simp only [List.map_toArray, List.map_cons, List.map_nil]); first | done | rfl | (simp only [List.length_drop, List.length_take]; rfl)) ?_; (with_reducible refine (impl_SumsOf.calls k _ _ t345 t355 t356 t357 _ ?side1 ?side2 A11.out).mono ?_); (case side1 => repeat (first | exact (Kd.R_reads' HO348.out).2.2 | (with_reducible refine Kd.C_alloc ?_ _) | (with_reducible refine Kd.C_drewN ?_ _) | (with_reducible refine Kd.C_drew ?_))); (case side2 => exact (Kd.R_reads' HO348.out).2.1); rintro e w21 ⟨rfl, hb⟩; refine ⟨_, rfl, ?_⟩; have n0_ := Aside0.mk (Kd.R_below (by (with_reducible repeat (first | apply Kd.R_alloc | apply Kd.R_drewN | apply Kd.R_drew)); exact HO348.out) hb); have n1_ := Aside0.mk (below_step (by repeat (first | (with_reducible first | exact HB.out | apply below_alloc | apply pw_below_drewN | apply below_drew1) | exact HB.out)) hb); clear HO348; clear HB; have HO348 := n0_; have HB := n1_; clear n0_ n1_; (try clear hb); (try clear hb2); (try clear hk); (try clear hi)) | ((with_reducible refine gate_callee (f := 49) rfl ?_); refine goesL_ (some 61) rfl rfl Tryd.func49 (by kernel_rfl) rfl #[.slice Ao17 t345.length co17] rfl (by (try simp only [List.map_toArray, List.map_cons, List.map_nil]); first | done | rfl | (simp only [List.length_drop, List.length_take]; rfl)) ?_; (with_reducible refine (impl_LevelsText.calls k _ _ t345 t358 t359 _ ?side1 ?side2 A12.out).mono ?_); (case side1 => repeat (first | exact (Kd.R_reads' HO348.out).2.2 | (with_reducible refine Kd.C_alloc ?_ _) | (with_reducible refine Kd.C_drewN ?_ _) | (with_reducible refine Kd.C_drew ?_))); (case side2 => exact (Kd.R_reads' HO348.out).2.1); rintro e w22 ⟨rfl, hb⟩; refine ⟨_, rfl, ?_⟩; have n0_ := Aside0.mk (Kd.R_below (by (with_reducible repeat (first | apply Kd.R_alloc | apply Kd.R_drewN | apply Kd.R_drew)); exact HO348.out) hb); have n1_ := Aside0.mk (below_step (by repeat (first | (with_reducible first | exact HB.out | apply below_alloc | apply pw_below_drewN | apply below_drew1) | exact HB.out)) hb); clear HO348; clear HB; have HO348 := n0_; have HB := n1_; clear n0_ n1_; (try clear hb); (try clear hb2); (try clear hk); (try clear hi)) | ((with_reducible refine gate_callee (f := 50) rfl ?_); refine goesL_ (some 66) rfl rfl Tryd.func50 (by kernel_rfl) rfl #[.string t358] rfl (by (try simp only [List.map_toArray, List.map_cons, List.map_nil]); first | done | rfl | (simp only [List.length_drop, List.length_take]; rfl)) ?_; (with_reducible refine (impl_ReadLevelsText.calls k t358 t360 t361 _ A13.out).mono ?_); rintro e w23 ⟨v362, rfl, ho0, hb⟩; refine ⟨_, rfl, ?_⟩; have n0_ := Aside0.mk (Kd.R_elder' (by (with_reducible repeat (first | apply Kd.R_alloc | apply Kd.R_drewN | apply Kd.R_drew)); exact HO348.out) (Kd.R_base ho0) hb); have n1_ := Aside0.mk (Kd.R_lower (Kd.R_new' ho0 (Kd.R_lt (by (with_reducible repeat (first | apply Kd.R_alloc | apply Kd.R_drewN | apply Kd.R_drew)); exact HO348.out))) (below_size (by repeat (first | (with_reducible first | exact HB.out | apply below_alloc | apply pw_below_drewN | apply below_drew1) | exact HB.out)))); have n2_ := Aside0.mk (below_step (by repeat (first | (with_reducible first | exact HB.out | apply below_alloc | apply pw_below_drewN | apply below_drew1) | exact HB.out)) hb); clear HO348; clear HB; have HO348 := n0_; have HO363 := n1_; have HB := n2_; clear n0_ n1_ n2_; (try clear hb); (try clear hb2); (try clear hk); (try clear hi); (try clear ho0)))
    (try simp only [Act.put, List.setIfInBounds_toArray, List.set_cons_zero, List.set_cons_succ])
    go_cut [117] (fun v117 wc => ∃ (kq : Nat) (x117_13 : Bool), v117 = .bool x117_13 ∧ Aside0 (laws_FnLevelled.j0 kq t343 t344 t345 t355 t356 x117_13 = some r) ∧ Aside0 (kq ≤ k) ∧ Aside0 (Kd.R (Kd.int .i64) 2 wc w.heap.size (fun _ => True) (.slice Ao17 t345.length co17) t345) ∧ Aside0 (Below w.heap.size w wc))
    case first =>
      have H := HC14.out
      clear HC14
      by_cases c24 : t346 = true
      · subst c24
        have H1 : (if t350 = true then (if t352 = true then (if t354 = true then (laws_FnLevelled.j0 k t343 t344 t345 t355 t356 true) else (if t357 = true then (if t359 = true then (if t361 = true then (if t349.toList = t344.toList then (if t351.toList = t344.toList then ((laws_r8Nums.f k t360 t345).bind fun t364 => (if t364 = true then (if t355 > 0 then (laws_FnLevelled.j0 k t343 t344 t345 t355 t356 true) else (laws_FnLevelled.j0 k t343 t344 t345 t355 t356 (decide (t356 < 0)))) else (laws_FnLevelled.j0 k t343 t344 t345 t355 t356 true))) else (laws_FnLevelled.j0 k t343 t344 t345 t355 t356 true)) else (laws_FnLevelled.j0 k t343 t344 t345 t355 t356 true)) else (laws_FnLevelled.j0 k t343 t344 t345 t355 t356 true)) else (laws_FnLevelled.j0 k t343 t344 t345 t355 t356 true)) else (laws_FnLevelled.j0 k t343 t344 t345 t355 t356 true))) else (laws_FnLevelled.j0 k t343 t344 t345 t355 t356 true)) else (laws_FnLevelled.j0 k t343 t344 t345 t355 t356 true)) = some r := by rw [if_pos rfl] at H; exact H
        clear H
        have H := H1
        clear H1
        by_cases c25 : t350 = true
        · subst c25
          have H1 : (if t352 = true then (if t354 = true then (laws_FnLevelled.j0 k t343 t344 t345 t355 t356 true) else (if t357 = true then (if t359 = true then (if t361 = true then (if t349.toList = t344.toList then (if t351.toList = t344.toList then ((laws_r8Nums.f k t360 t345).bind fun t364 => (if t364 = true then (if t355 > 0 then (laws_FnLevelled.j0 k t343 t344 t345 t355 t356 true) else (laws_FnLevelled.j0 k t343 t344 t345 t355 t356 (decide (t356 < 0)))) else (laws_FnLevelled.j0 k t343 t344 t345 t355 t356 true))) else (laws_FnLevelled.j0 k t343 t344 t345 t355 t356 true)) else (laws_FnLevelled.j0 k t343 t344 t345 t355 t356 true)) else (laws_FnLevelled.j0 k t343 t344 t345 t355 t356 true)) else (laws_FnLevelled.j0 k t343 t344 t345 t355 t356 true)) else (laws_FnLevelled.j0 k t343 t344 t345 t355 t356 true))) else (laws_FnLevelled.j0 k t343 t344 t345 t355 t356 true)) = some r := by rw [if_pos rfl] at H; exact H
          clear H
          have H := H1
          clear H1
          by_cases c26 : t352 = true
          · subst c26
            have H1 : (if t354 = true then (laws_FnLevelled.j0 k t343 t344 t345 t355 t356 true) else (if t357 = true then (if t359 = true then (if t361 = true then (if t349.toList = t344.toList then (if t351.toList = t344.toList then ((laws_r8Nums.f k t360 t345).bind fun t364 => (if t364 = true then (if t355 > 0 then (laws_FnLevelled.j0 k t343 t344 t345 t355 t356 true) else (laws_FnLevelled.j0 k t343 t344 t345 t355 t356 (decide (t356 < 0)))) else (laws_FnLevelled.j0 k t343 t344 t345 t355 t356 true))) else (laws_FnLevelled.j0 k t343 t344 t345 t355 t356 true)) else (laws_FnLevelled.j0 k t343 t344 t345 t355 t356 true)) else (laws_FnLevelled.j0 k t343 t344 t345 t355 t356 true)) else (laws_FnLevelled.j0 k t343 t344 t345 t355 t356 true)) else (laws_FnLevelled.j0 k t343 t344 t345 t355 t356 true))) = some r := by rw [if_pos rfl] at H; exact H
            clear H
            have H := H1
            clear H1
            by_cases c27 : t354 = true
            · subst c27
              have H1 : (laws_FnLevelled.j0 k t343 t344 t345 t355 t356 true) = some r := by rw [if_pos rfl] at H; exact H
              clear H
              have H := H1
              clear H1
              have H' := Aside0.mk H
              clear H
              go_wp2
              go_meet
              case rel => exact ⟨_, (true), (by first | rfl | (simp; done) | (simp [*]; done)), H', ⟨by first | omega | exact Nat.le_refl _⟩, ⟨by (with_reducible repeat (first | apply Kd.R_alloc | apply Kd.R_drewN | apply Kd.R_drew)); exact Kd.R_mono HO348.out (fun _ hk => trivial)⟩, ⟨by repeat (first | (with_reducible first | exact HB.out | apply below_alloc | apply pw_below_drewN | apply below_drew1) | exact HB.out)⟩⟩
            · replace c27 := Bool.eq_false_iff.mpr c27
              subst c27
              have H1 : (if t357 = true then (if t359 = true then (if t361 = true then (if t349.toList = t344.toList then (if t351.toList = t344.toList then ((laws_r8Nums.f k t360 t345).bind fun t364 => (if t364 = true then (if t355 > 0 then (laws_FnLevelled.j0 k t343 t344 t345 t355 t356 true) else (laws_FnLevelled.j0 k t343 t344 t345 t355 t356 (decide (t356 < 0)))) else (laws_FnLevelled.j0 k t343 t344 t345 t355 t356 true))) else (laws_FnLevelled.j0 k t343 t344 t345 t355 t356 true)) else (laws_FnLevelled.j0 k t343 t344 t345 t355 t356 true)) else (laws_FnLevelled.j0 k t343 t344 t345 t355 t356 true)) else (laws_FnLevelled.j0 k t343 t344 t345 t355 t356 true)) else (laws_FnLevelled.j0 k t343 t344 t345 t355 t356 true)) = some r := by rw [if_neg (show ¬ (false = true) by decide)] at H; exact H
              clear H
              have H := H1
              clear H1
              by_cases c28 : t357 = true
              · subst c28
                have H1 : (if t359 = true then (if t361 = true then (if t349.toList = t344.toList then (if t351.toList = t344.toList then ((laws_r8Nums.f k t360 t345).bind fun t364 => (if t364 = true then (if t355 > 0 then (laws_FnLevelled.j0 k t343 t344 t345 t355 t356 true) else (laws_FnLevelled.j0 k t343 t344 t345 t355 t356 (decide (t356 < 0)))) else (laws_FnLevelled.j0 k t343 t344 t345 t355 t356 true))) else (laws_FnLevelled.j0 k t343 t344 t345 t355 t356 true)) else (laws_FnLevelled.j0 k t343 t344 t345 t355 t356 true)) else (laws_FnLevelled.j0 k t343 t344 t345 t355 t356 true)) else (laws_FnLevelled.j0 k t343 t344 t345 t355 t356 true)) = some r := by rw [if_pos rfl] at H; exact H
                clear H
                have H := H1
                clear H1
                by_cases c29 : t359 = true
                · subst c29
                  have H1 : (if t361 = true then (if t349.toList = t344.toList then (if t351.toList = t344.toList then ((laws_r8Nums.f k t360 t345).bind fun t364 => (if t364 = true then (if t355 > 0 then (laws_FnLevelled.j0 k t343 t344 t345 t355 t356 true) else (laws_FnLevelled.j0 k t343 t344 t345 t355 t356 (decide (t356 < 0)))) else (laws_FnLevelled.j0 k t343 t344 t345 t355 t356 true))) else (laws_FnLevelled.j0 k t343 t344 t345 t355 t356 true)) else (laws_FnLevelled.j0 k t343 t344 t345 t355 t356 true)) else (laws_FnLevelled.j0 k t343 t344 t345 t355 t356 true)) = some r := by rw [if_pos rfl] at H; exact H
                  clear H
                  have H := H1
                  clear H1
                  by_cases c30 : t361 = true
                  · subst c30
                    have H1 : (if t349.toList = t344.toList then (if t351.toList = t344.toList then ((laws_r8Nums.f k t360 t345).bind fun t364 => (if t364 = true then (if t355 > 0 then (laws_FnLevelled.j0 k t343 t344 t345 t355 t356 true) else (laws_FnLevelled.j0 k t343 t344 t345 t355 t356 (decide (t356 < 0)))) else (laws_FnLevelled.j0 k t343 t344 t345 t355 t356 true))) else (laws_FnLevelled.j0 k t343 t344 t345 t355 t356 true)) else (laws_FnLevelled.j0 k t343 t344 t345 t355 t356 true)) = some r := by rw [if_pos rfl] at H; exact H
                    clear H
                    have H := H1
                    clear H1
                    by_cases c31 : t349.toList = t344.toList
                    · rw [if_pos c31] at H
                      have c31b0 : (t349.toList == t344.toList) = true := beq_iff_eq.mpr c31
                      have c31b1 : (t349.toList != t344.toList) = false := bne_eq_false_iff_eq.mpr c31
                      clear c31
                      (first | rw [c31b0] | (simp only [i64_w, i32_w]; rw [c31b0]) | skip)
                      by_cases c32 : t351.toList = t344.toList
                      · rw [if_pos c32] at H
                        have c32b0 : (t351.toList == t344.toList) = true := beq_iff_eq.mpr c32
                        have c32b1 : (t351.toList != t344.toList) = false := bne_eq_false_iff_eq.mpr c32
                        clear c32
                        replace H := Option.bind_eq_some_iff.mp H
                        obtain ⟨t364, A330, H⟩ := H
                        replace H : (if t364 = true then (if t355 > 0 then (laws_FnLevelled.j0 k t343 t344 t345 t355 t356 true) else (laws_FnLevelled.j0 k t343 t344 t345 t355 t356 (decide (t356 < 0)))) else (laws_FnLevelled.j0 k t343 t344 t345 t355 t356 true)) = some r := H
                        have A33 := Aside0.mk A330
                        clear A330
                        by_cases c34 : t364 = true
                        · subst c34
                          have H1 : (if t355 > 0 then (laws_FnLevelled.j0 k t343 t344 t345 t355 t356 true) else (laws_FnLevelled.j0 k t343 t344 t345 t355 t356 (decide (t356 < 0)))) = some r := by rw [if_pos rfl] at H; exact H
                          clear H
                          have H := H1
                          clear H1
                          by_cases c35 : t355 > 0
                          · rw [if_pos c35] at H
                            have c35b0 : decide (0 < t355) = true := decide_eq_true c35
                            clear c35
                            have H' := Aside0.mk H
                            clear H
                            obtain ⟨Ao36, co36, eo36⟩ := Kd.R_slice HO363.out
                            subst eo36
                            go_wp2_with (first | (go_at_call 43; (with_reducible refine (laws_r8Nums.calls k _ _ t360 _ _ t345 true _ ?side1 ?side2 ?side3 ?side4 A33.out).mono ?_); (case side1 => repeat (first | exact (Kd.R_reads' HO363.out).2.2 | (with_reducible refine Kd.C_alloc ?_ _) | (with_reducible refine Kd.C_drewN ?_ _) | (with_reducible refine Kd.C_drew ?_))); (case side2 => exact (Kd.R_reads' HO363.out).2.1); (case side3 => repeat (first | exact (Kd.R_reads' HO348.out).2.2 | (with_reducible refine Kd.C_alloc ?_ _) | (with_reducible refine Kd.C_drewN ?_ _) | (with_reducible refine Kd.C_drew ?_))); (case side4 => exact (Kd.R_reads' HO348.out).2.1); rintro e w' ⟨rfl, ⟨nd, rfl⟩⟩))
                            go_meet
                            case rel => exact ⟨_, (true), (by first | rfl | (simp; done) | (simp [*]; done)), H', ⟨by first | omega | exact Nat.le_refl _⟩, ⟨by (with_reducible repeat (first | apply Kd.R_alloc | apply Kd.R_drewN | apply Kd.R_drew)); exact Kd.R_mono HO348.out (fun _ hk => trivial)⟩, ⟨by repeat (first | (with_reducible first | exact HB.out | apply below_alloc | apply pw_below_drewN | apply below_drew1) | exact HB.out)⟩⟩
                          · rw [if_neg c35] at H
                            have c35b0 : decide (0 < t355) = false := decide_eq_false c35
                            clear c35
                            have H' := Aside0.mk H
                            clear H
                            obtain ⟨Ao37, co37, eo37⟩ := Kd.R_slice HO363.out
                            subst eo37
                            go_wp2_with (first | (go_at_call 43; (with_reducible refine (laws_r8Nums.calls k _ _ t360 _ _ t345 true _ ?side1 ?side2 ?side3 ?side4 A33.out).mono ?_); (case side1 => repeat (first | exact (Kd.R_reads' HO363.out).2.2 | (with_reducible refine Kd.C_alloc ?_ _) | (with_reducible refine Kd.C_drewN ?_ _) | (with_reducible refine Kd.C_drew ?_))); (case side2 => exact (Kd.R_reads' HO363.out).2.1); (case side3 => repeat (first | exact (Kd.R_reads' HO348.out).2.2 | (with_reducible refine Kd.C_alloc ?_ _) | (with_reducible refine Kd.C_drewN ?_ _) | (with_reducible refine Kd.C_drew ?_))); (case side4 => exact (Kd.R_reads' HO348.out).2.1); rintro e w' ⟨rfl, ⟨nd, rfl⟩⟩))
                            go_meet
                            case rel => exact ⟨_, (decide (t356 < 0)), (by first | rfl | (simp; done) | (simp [*]; done)), H', ⟨by first | omega | exact Nat.le_refl _⟩, ⟨by (with_reducible repeat (first | apply Kd.R_alloc | apply Kd.R_drewN | apply Kd.R_drew)); exact Kd.R_mono HO348.out (fun _ hk => trivial)⟩, ⟨by repeat (first | (with_reducible first | exact HB.out | apply below_alloc | apply pw_below_drewN | apply below_drew1) | exact HB.out)⟩⟩
                        · replace c34 := Bool.eq_false_iff.mpr c34
                          subst c34
                          have H1 : (laws_FnLevelled.j0 k t343 t344 t345 t355 t356 true) = some r := by rw [if_neg (show ¬ (false = true) by decide)] at H; exact H
                          clear H
                          have H := H1
                          clear H1
                          have H' := Aside0.mk H
                          clear H
                          obtain ⟨Ao38, co38, eo38⟩ := Kd.R_slice HO363.out
                          subst eo38
                          go_wp2_with (first | (go_at_call 43; (with_reducible refine (laws_r8Nums.calls k _ _ t360 _ _ t345 false _ ?side1 ?side2 ?side3 ?side4 A33.out).mono ?_); (case side1 => repeat (first | exact (Kd.R_reads' HO363.out).2.2 | (with_reducible refine Kd.C_alloc ?_ _) | (with_reducible refine Kd.C_drewN ?_ _) | (with_reducible refine Kd.C_drew ?_))); (case side2 => exact (Kd.R_reads' HO363.out).2.1); (case side3 => repeat (first | exact (Kd.R_reads' HO348.out).2.2 | (with_reducible refine Kd.C_alloc ?_ _) | (with_reducible refine Kd.C_drewN ?_ _) | (with_reducible refine Kd.C_drew ?_))); (case side4 => exact (Kd.R_reads' HO348.out).2.1); rintro e w' ⟨rfl, ⟨nd, rfl⟩⟩))
                          go_meet
                          case rel => exact ⟨_, (true), (by first | rfl | (simp; done) | (simp [*]; done)), H', ⟨by first | omega | exact Nat.le_refl _⟩, ⟨by (with_reducible repeat (first | apply Kd.R_alloc | apply Kd.R_drewN | apply Kd.R_drew)); exact Kd.R_mono HO348.out (fun _ hk => trivial)⟩, ⟨by repeat (first | (with_reducible first | exact HB.out | apply below_alloc | apply pw_below_drewN | apply below_drew1) | exact HB.out)⟩⟩
                      · rw [if_neg c32] at H
                        have c32b0 : (t351.toList == t344.toList) = false := beq_eq_false_iff_ne.mpr c32
                        have c32b1 : (t351.toList != t344.toList) = true := bne_iff_ne.mpr c32
                        have H' := Aside0.mk H
                        clear H
                        go_wp2
                        go_meet
                        case rel => exact ⟨_, (true), (by first | rfl | (simp; done) | (simp [*]; done)), H', ⟨by first | omega | exact Nat.le_refl _⟩, ⟨by (with_reducible repeat (first | apply Kd.R_alloc | apply Kd.R_drewN | apply Kd.R_drew)); exact Kd.R_mono HO348.out (fun _ hk => trivial)⟩, ⟨by repeat (first | (with_reducible first | exact HB.out | apply below_alloc | apply pw_below_drewN | apply below_drew1) | exact HB.out)⟩⟩
                    · rw [if_neg c31] at H
                      have c31b0 : (t349.toList == t344.toList) = false := beq_eq_false_iff_ne.mpr c31
                      have c31b1 : (t349.toList != t344.toList) = true := bne_iff_ne.mpr c31
                      (first | rw [c31b0] | (simp only [i64_w, i32_w]; rw [c31b0]) | skip)
                      have H' := Aside0.mk H
                      clear H
                      go_wp2
                      go_meet
                      case rel => exact ⟨_, (true), (by first | rfl | (simp; done) | (simp [*]; done)), H', ⟨by first | omega | exact Nat.le_refl _⟩, ⟨by (with_reducible repeat (first | apply Kd.R_alloc | apply Kd.R_drewN | apply Kd.R_drew)); exact Kd.R_mono HO348.out (fun _ hk => trivial)⟩, ⟨by repeat (first | (with_reducible first | exact HB.out | apply below_alloc | apply pw_below_drewN | apply below_drew1) | exact HB.out)⟩⟩
                  · replace c30 := Bool.eq_false_iff.mpr c30
                    subst c30
                    have H1 : (laws_FnLevelled.j0 k t343 t344 t345 t355 t356 true) = some r := by rw [if_neg (show ¬ (false = true) by decide)] at H; exact H
                    clear H
                    have H := H1
                    clear H1
                    have H' := Aside0.mk H
                    clear H
                    go_wp2
                    go_meet
                    case rel => exact ⟨_, (true), (by first | rfl | (simp; done) | (simp [*]; done)), H', ⟨by first | omega | exact Nat.le_refl _⟩, ⟨by (with_reducible repeat (first | apply Kd.R_alloc | apply Kd.R_drewN | apply Kd.R_drew)); exact Kd.R_mono HO348.out (fun _ hk => trivial)⟩, ⟨by repeat (first | (with_reducible first | exact HB.out | apply below_alloc | apply pw_below_drewN | apply below_drew1) | exact HB.out)⟩⟩
                · replace c29 := Bool.eq_false_iff.mpr c29
                  subst c29
                  have H1 : (laws_FnLevelled.j0 k t343 t344 t345 t355 t356 true) = some r := by rw [if_neg (show ¬ (false = true) by decide)] at H; exact H
                  clear H
                  have H := H1
                  clear H1
                  have H' := Aside0.mk H
                  clear H
                  go_wp2
                  go_meet
                  case rel => exact ⟨_, (true), (by first | rfl | (simp; done) | (simp [*]; done)), H', ⟨by first | omega | exact Nat.le_refl _⟩, ⟨by (with_reducible repeat (first | apply Kd.R_alloc | apply Kd.R_drewN | apply Kd.R_drew)); exact Kd.R_mono HO348.out (fun _ hk => trivial)⟩, ⟨by repeat (first | (with_reducible first | exact HB.out | apply below_alloc | apply pw_below_drewN | apply below_drew1) | exact HB.out)⟩⟩
              · replace c28 := Bool.eq_false_iff.mpr c28
                subst c28
                have H1 : (laws_FnLevelled.j0 k t343 t344 t345 t355 t356 true) = some r := by rw [if_neg (show ¬ (false = true) by decide)] at H; exact H
                clear H
                have H := H1
                clear H1
                have H' := Aside0.mk H
                clear H
                go_wp2
                go_meet
                case rel => exact ⟨_, (true), (by first | rfl | (simp; done) | (simp [*]; done)), H', ⟨by first | omega | exact Nat.le_refl _⟩, ⟨by (with_reducible repeat (first | apply Kd.R_alloc | apply Kd.R_drewN | apply Kd.R_drew)); exact Kd.R_mono HO348.out (fun _ hk => trivial)⟩, ⟨by repeat (first | (with_reducible first | exact HB.out | apply below_alloc | apply pw_below_drewN | apply below_drew1) | exact HB.out)⟩⟩
          · replace c26 := Bool.eq_false_iff.mpr c26
            subst c26
            have H1 : (laws_FnLevelled.j0 k t343 t344 t345 t355 t356 true) = some r := by rw [if_neg (show ¬ (false = true) by decide)] at H; exact H
            clear H
            have H := H1
            clear H1
            have H' := Aside0.mk H
            clear H
            go_wp2
            go_meet
            case rel => exact ⟨_, (true), (by first | rfl | (simp; done) | (simp [*]; done)), H', ⟨by first | omega | exact Nat.le_refl _⟩, ⟨by (with_reducible repeat (first | apply Kd.R_alloc | apply Kd.R_drewN | apply Kd.R_drew)); exact Kd.R_mono HO348.out (fun _ hk => trivial)⟩, ⟨by repeat (first | (with_reducible first | exact HB.out | apply below_alloc | apply pw_below_drewN | apply below_drew1) | exact HB.out)⟩⟩
        · replace c25 := Bool.eq_false_iff.mpr c25
          subst c25
          have H1 : (laws_FnLevelled.j0 k t343 t344 t345 t355 t356 true) = some r := by rw [if_neg (show ¬ (false = true) by decide)] at H; exact H
          clear H
          have H := H1
          clear H1
          have H' := Aside0.mk H
          clear H
          go_wp2
          go_meet
          case rel => exact ⟨_, (true), (by first | rfl | (simp; done) | (simp [*]; done)), H', ⟨by first | omega | exact Nat.le_refl _⟩, ⟨by (with_reducible repeat (first | apply Kd.R_alloc | apply Kd.R_drewN | apply Kd.R_drew)); exact Kd.R_mono HO348.out (fun _ hk => trivial)⟩, ⟨by repeat (first | (with_reducible first | exact HB.out | apply below_alloc | apply pw_below_drewN | apply below_drew1) | exact HB.out)⟩⟩
      · replace c24 := Bool.eq_false_iff.mpr c24
        subst c24
        have H1 : (laws_FnLevelled.j0 k t343 t344 t345 t355 t356 true) = some r := by rw [if_neg (show ¬ (false = true) by decide)] at H; exact H
        clear H
        have H := H1
        clear H1
        have H' := Aside0.mk H
        clear H
        go_wp2
        go_meet
        case rel => exact ⟨_, (true), (by first | rfl | (simp; done) | (simp [*]; done)), H', ⟨by first | omega | exact Nat.le_refl _⟩, ⟨by (with_reducible repeat (first | apply Kd.R_alloc | apply Kd.R_drewN | apply Kd.R_drew)); exact Kd.R_mono HO348.out (fun _ hk => trivial)⟩, ⟨by repeat (first | (with_reducible first | exact HB.out | apply below_alloc | apply pw_below_drewN | apply below_drew1) | exact HB.out)⟩⟩
    case rest =>
      clear HC14
      try clear c1
      try clear c2
      try clear p2
      try clear c3
      try clear c4
      try clear c5
      try clear c11
      try clear c16
      try clear c24
      try clear c25
      try clear c26
      try clear c27
      try clear c28
      try clear c29
      try clear c30
      try clear c31
      try clear c31b0
      try clear c31b1
      try clear c32
      try clear c32b0
      try clear c32b1
      try clear c34
      try clear c35
      try clear c35b0
      obtain ⟨kq, x117_13, rfl, HA, HJ13, HO_7, HB⟩ := hcut
      cases kq with
      | zero => exact absurd HA.out (by simp [laws_FnLevelled.j0])
      | succ kj13 =>
        have H := HA.out
        clear HA
        simp only [laws_FnLevelled.j0] at H
        by_cases c39 : x117_13 = true
        · subst c39
          have H1 : (some false) = some r := by rw [if_pos rfl] at H; exact H
          clear H
          have H := H1
          clear H1
          obtain rfl := Option.some.inj H
          go_wp2
          go_ret
          exact ⟨by first | rfl | (simp [errW_none, errW_some] <;> rfl) | (simp [*, errW_none, errW_some] <;> rfl), by repeat (first | (with_reducible first | exact HB.out | apply below_alloc | apply pw_below_drewN | apply below_drew1) | exact HB.out)⟩
        · replace c39 := Bool.eq_false_iff.mpr c39
          subst c39
          have H1 : (if t343 = 2 then (if t355 < (-1) then (some false) else (if t356 > 1 then (some false) else (if (t345.length : Int) = (wrap64 (2 * (t344.size : Int))) then (if t343 = 4 then (if t355 = 0 then (some (decide (t356 ≤ 1))) else (some false)) else (some true)) else (some false)))) else (if t343 = 3 then (if t355 < (-1) then (some false) else (if t356 > 1 then (some false) else (if (t345.length : Int) = (wrap64 (2 * (t344.size : Int))) then (if t343 = 4 then (if t355 = 0 then (some (decide (t356 ≤ 1))) else (some false)) else (some true)) else (some false)))) else (if t343 = 4 then (if t355 = 0 then (some (decide (t356 ≤ 1))) else (some false)) else (some true)))) = some r := by rw [if_neg (show ¬ (false = true) by decide)] at H; exact H
          clear H
          have H := H1
          clear H1
          by_cases c40 : t343 = 2
          · rw [if_pos c40] at H
            have c40b0 : (t343 == 2) = true := beq_iff_eq.mpr c40
            have c40b1 : (t343 != 2) = false := bne_eq_false_iff_eq.mpr c40
            clear c40
            by_cases c41 : t355 < (-1)
            · rw [if_pos c41] at H
              have c41b0 : decide (t355 < (-1)) = true := decide_eq_true c41
              clear c41
              obtain rfl := Option.some.inj H
              go_wp2
              go_ret
              exact ⟨by first | rfl | (simp [errW_none, errW_some] <;> rfl) | (simp [*, errW_none, errW_some] <;> rfl), by repeat (first | (with_reducible first | exact HB.out | apply below_alloc | apply pw_below_drewN | apply below_drew1) | exact HB.out)⟩
            · rw [if_neg c41] at H
              have c41b0 : decide (t355 < (-1)) = false := decide_eq_false c41
              clear c41
              by_cases c42 : t356 > 1
              · rw [if_pos c42] at H
                have c42b0 : decide (1 < t356) = true := decide_eq_true c42
                clear c42
                obtain rfl := Option.some.inj H
                go_wp2
                go_ret
                exact ⟨by first | rfl | (simp [errW_none, errW_some] <;> rfl) | (simp [*, errW_none, errW_some] <;> rfl), by repeat (first | (with_reducible first | exact HB.out | apply below_alloc | apply pw_below_drewN | apply below_drew1) | exact HB.out)⟩
              · rw [if_neg c42] at H
                have c42b0 : decide (1 < t356) = false := decide_eq_false c42
                clear c42
                by_cases c43 : (t345.length : Int) = (wrap64 (2 * (t344.size : Int)))
                · rw [if_pos c43] at H
                  have c43b0 : ((t345.length : Int) == (wrap64 (2 * (t344.size : Int)))) = true := beq_iff_eq.mpr c43
                  have c43b1 : ((t345.length : Int) != (wrap64 (2 * (t344.size : Int)))) = false := bne_eq_false_iff_eq.mpr c43
                  clear c43
                  by_cases c44 : t343 = 4
                  · rw [if_pos c44] at H
                    have c44b0 : (t343 == 4) = true := beq_iff_eq.mpr c44
                    have c44b1 : (t343 != 4) = false := bne_eq_false_iff_eq.mpr c44
                    clear c44
                    by_cases c45 : t355 = 0
                    · rw [if_pos c45] at H
                      have c45b0 : (t355 == 0) = true := beq_iff_eq.mpr c45
                      have c45b1 : (t355 != 0) = false := bne_eq_false_iff_eq.mpr c45
                      clear c45
                      obtain rfl := Option.some.inj H
                      go_wp2
                      go_ret
                      exact ⟨by first | rfl | (simp [errW_none, errW_some] <;> rfl) | (simp [*, errW_none, errW_some] <;> rfl), by repeat (first | (with_reducible first | exact HB.out | apply below_alloc | apply pw_below_drewN | apply below_drew1) | exact HB.out)⟩
                    · rw [if_neg c45] at H
                      have c45b0 : (t355 == 0) = false := beq_eq_false_iff_ne.mpr c45
                      have c45b1 : (t355 != 0) = true := bne_iff_ne.mpr c45
                      obtain rfl := Option.some.inj H
                      go_wp2
                      go_ret
                      exact ⟨by first | rfl | (simp [errW_none, errW_some] <;> rfl) | (simp [*, errW_none, errW_some] <;> rfl), by repeat (first | (with_reducible first | exact HB.out | apply below_alloc | apply pw_below_drewN | apply below_drew1) | exact HB.out)⟩
                  · rw [if_neg c44] at H
                    have c44b0 : (t343 == 4) = false := beq_eq_false_iff_ne.mpr c44
                    have c44b1 : (t343 != 4) = true := bne_iff_ne.mpr c44
                    obtain rfl := Option.some.inj H
                    go_wp2
                    go_ret
                    exact ⟨by first | rfl | (simp [errW_none, errW_some] <;> rfl) | (simp [*, errW_none, errW_some] <;> rfl), by repeat (first | (with_reducible first | exact HB.out | apply below_alloc | apply pw_below_drewN | apply below_drew1) | exact HB.out)⟩
                · rw [if_neg c43] at H
                  have c43b0 : ((t345.length : Int) == (wrap64 (2 * (t344.size : Int)))) = false := beq_eq_false_iff_ne.mpr c43
                  have c43b1 : ((t345.length : Int) != (wrap64 (2 * (t344.size : Int)))) = true := bne_iff_ne.mpr c43
                  obtain rfl := Option.some.inj H
                  go_wp2
                  go_ret
                  exact ⟨by first | rfl | (simp [errW_none, errW_some] <;> rfl) | (simp [*, errW_none, errW_some] <;> rfl), by repeat (first | (with_reducible first | exact HB.out | apply below_alloc | apply pw_below_drewN | apply below_drew1) | exact HB.out)⟩
          · rw [if_neg c40] at H
            have c40b0 : (t343 == 2) = false := beq_eq_false_iff_ne.mpr c40
            have c40b1 : (t343 != 2) = true := bne_iff_ne.mpr c40
            by_cases c46 : t343 = 3
            · rw [if_pos c46] at H
              have c46b0 : (t343 == 3) = true := beq_iff_eq.mpr c46
              have c46b1 : (t343 != 3) = false := bne_eq_false_iff_eq.mpr c46
              clear c46
              by_cases c47 : t355 < (-1)
              · rw [if_pos c47] at H
                have c47b0 : decide (t355 < (-1)) = true := decide_eq_true c47
                clear c47
                obtain rfl := Option.some.inj H
                go_wp2
                go_ret
                exact ⟨by first | rfl | (simp [errW_none, errW_some] <;> rfl) | (simp [*, errW_none, errW_some] <;> rfl), by repeat (first | (with_reducible first | exact HB.out | apply below_alloc | apply pw_below_drewN | apply below_drew1) | exact HB.out)⟩
              · rw [if_neg c47] at H
                have c47b0 : decide (t355 < (-1)) = false := decide_eq_false c47
                clear c47
                by_cases c48 : t356 > 1
                · rw [if_pos c48] at H
                  have c48b0 : decide (1 < t356) = true := decide_eq_true c48
                  clear c48
                  obtain rfl := Option.some.inj H
                  go_wp2
                  go_ret
                  exact ⟨by first | rfl | (simp [errW_none, errW_some] <;> rfl) | (simp [*, errW_none, errW_some] <;> rfl), by repeat (first | (with_reducible first | exact HB.out | apply below_alloc | apply pw_below_drewN | apply below_drew1) | exact HB.out)⟩
                · rw [if_neg c48] at H
                  have c48b0 : decide (1 < t356) = false := decide_eq_false c48
                  clear c48
                  by_cases c49 : (t345.length : Int) = (wrap64 (2 * (t344.size : Int)))
                  · rw [if_pos c49] at H
                    have c49b0 : ((t345.length : Int) == (wrap64 (2 * (t344.size : Int)))) = true := beq_iff_eq.mpr c49
                    have c49b1 : ((t345.length : Int) != (wrap64 (2 * (t344.size : Int)))) = false := bne_eq_false_iff_eq.mpr c49
                    clear c49
                    by_cases c50 : t343 = 4
                    · rw [if_pos c50] at H
                      have c50b0 : (t343 == 4) = true := beq_iff_eq.mpr c50
                      have c50b1 : (t343 != 4) = false := bne_eq_false_iff_eq.mpr c50
                      clear c50
                      by_cases c51 : t355 = 0
                      · rw [if_pos c51] at H
                        have c51b0 : (t355 == 0) = true := beq_iff_eq.mpr c51
                        have c51b1 : (t355 != 0) = false := bne_eq_false_iff_eq.mpr c51
                        clear c51
                        obtain rfl := Option.some.inj H
                        go_wp2
                        go_ret
                        exact ⟨by first | rfl | (simp [errW_none, errW_some] <;> rfl) | (simp [*, errW_none, errW_some] <;> rfl), by repeat (first | (with_reducible first | exact HB.out | apply below_alloc | apply pw_below_drewN | apply below_drew1) | exact HB.out)⟩
                      · rw [if_neg c51] at H
                        have c51b0 : (t355 == 0) = false := beq_eq_false_iff_ne.mpr c51
                        have c51b1 : (t355 != 0) = true := bne_iff_ne.mpr c51
                        obtain rfl := Option.some.inj H
                        go_wp2
                        go_ret
                        exact ⟨by first | rfl | (simp [errW_none, errW_some] <;> rfl) | (simp [*, errW_none, errW_some] <;> rfl), by repeat (first | (with_reducible first | exact HB.out | apply below_alloc | apply pw_below_drewN | apply below_drew1) | exact HB.out)⟩
                    · rw [if_neg c50] at H
                      have c50b0 : (t343 == 4) = false := beq_eq_false_iff_ne.mpr c50
                      have c50b1 : (t343 != 4) = true := bne_iff_ne.mpr c50
                      obtain rfl := Option.some.inj H
                      go_wp2
                      go_ret
                      exact ⟨by first | rfl | (simp [errW_none, errW_some] <;> rfl) | (simp [*, errW_none, errW_some] <;> rfl), by repeat (first | (with_reducible first | exact HB.out | apply below_alloc | apply pw_below_drewN | apply below_drew1) | exact HB.out)⟩
                  · rw [if_neg c49] at H
                    have c49b0 : ((t345.length : Int) == (wrap64 (2 * (t344.size : Int)))) = false := beq_eq_false_iff_ne.mpr c49
                    have c49b1 : ((t345.length : Int) != (wrap64 (2 * (t344.size : Int)))) = true := bne_iff_ne.mpr c49
                    obtain rfl := Option.some.inj H
                    go_wp2
                    go_ret
                    exact ⟨by first | rfl | (simp [errW_none, errW_some] <;> rfl) | (simp [*, errW_none, errW_some] <;> rfl), by repeat (first | (with_reducible first | exact HB.out | apply below_alloc | apply pw_below_drewN | apply below_drew1) | exact HB.out)⟩
            · rw [if_neg c46] at H
              have c46b0 : (t343 == 3) = false := beq_eq_false_iff_ne.mpr c46
              have c46b1 : (t343 != 3) = true := bne_iff_ne.mpr c46
              by_cases c52 : t343 = 4
              · rw [if_pos c52] at H
                have c52b0 : (t343 == 4) = true := beq_iff_eq.mpr c52
                have c52b1 : (t343 != 4) = false := bne_eq_false_iff_eq.mpr c52
                clear c52
                by_cases c53 : t355 = 0
                · rw [if_pos c53] at H
                  have c53b0 : (t355 == 0) = true := beq_iff_eq.mpr c53
                  have c53b1 : (t355 != 0) = false := bne_eq_false_iff_eq.mpr c53
                  clear c53
                  obtain rfl := Option.some.inj H
                  go_wp2
                  go_ret
                  exact ⟨by first | rfl | (simp [errW_none, errW_some] <;> rfl) | (simp [*, errW_none, errW_some] <;> rfl), by repeat (first | (with_reducible first | exact HB.out | apply below_alloc | apply pw_below_drewN | apply below_drew1) | exact HB.out)⟩
                · rw [if_neg c53] at H
                  have c53b0 : (t355 == 0) = false := beq_eq_false_iff_ne.mpr c53
                  have c53b1 : (t355 != 0) = true := bne_iff_ne.mpr c53
                  obtain rfl := Option.some.inj H
                  go_wp2
                  go_ret
                  exact ⟨by first | rfl | (simp [errW_none, errW_some] <;> rfl) | (simp [*, errW_none, errW_some] <;> rfl), by repeat (first | (with_reducible first | exact HB.out | apply below_alloc | apply pw_below_drewN | apply below_drew1) | exact HB.out)⟩
              · rw [if_neg c52] at H
                have c52b0 : (t343 == 4) = false := beq_eq_false_iff_ne.mpr c52
                have c52b1 : (t343 != 4) = true := bne_iff_ne.mpr c52
                obtain rfl := Option.some.inj H
                go_wp2
                go_ret
                exact ⟨by first | rfl | (simp [errW_none, errW_some] <;> rfl) | (simp [*, errW_none, errW_some] <;> rfl), by repeat (first | (with_reducible first | exact HB.out | apply below_alloc | apply pw_below_drewN | apply below_drew1) | exact HB.out)⟩

/-- THE ONE PURE STATEMENT of laws_FnLevelled: yours. -/
def laws_FnLevelled.Pure : Prop := ∀ (l0 : List Int) (l1 : List Int), l0.length ≤ maxLen → l0.length * 1 ≤ 140737488351232 → (∀ x ∈ l0, (Lit.int .u8 x).wf = true) → l1.length ≤ maxLen → l1.length * 1 ≤ 140737488351232 → (∀ x ∈ l1, (Lit.int .u8 x).wf = true) → ∃ k, laws_FnLevelled.f k l0 l1 = some true
theorem laws_FnLevelled.walk (P : laws_FnLevelled.Pure) (a0 : Option Addr) (len0 cap0 : Nat) (z0 : List Int) (a1 : Option Addr) (len1 cap1 : Nat) (z1 : List Int) (w : World) (w0 : (a0 = none ∧ len0 = 0 ∧ cap0 = 0 ∧ z0 = []) ∨ ∃ x, a0 = some x ∧ len0 ≤ cap0 ∧ cap0 ≤ maxLen ∧ z0.length = cap0 ∧ (∀ i, i < z0.length → w.cell? (x.add i) = some (.int .u8 (z0.getD i 0))) ∧ ∀ n ∈ z0, (Lit.int .u8 n).wf = true) (y0 : len0 * 1 ≤ 140737488351232) (w1 : (a1 = none ∧ len1 = 0 ∧ cap1 = 0 ∧ z1 = []) ∨ ∃ x, a1 = some x ∧ len1 ≤ cap1 ∧ cap1 ≤ maxLen ∧ z1.length = cap1 ∧ (∀ i, i < z1.length → w.cell? (x.add i) = some (.int .u8 (z1.getD i 0))) ∧ ∀ n ∈ z1, (Lit.int .u8 n).wf = true) (y1 : len1 * 1 ≤ 140737488351232) :
    Calls Tryd.prog 11 #[.slice a0 len0 cap0, .slice a1 len1 cap1] w fun e w' => e = .returned (.bool true) ∧ Below w.heap.size w w' := by
  obtain ⟨l0, rfl, hr0, hm0, hw0, hc0⟩ := ReadsInt.ofRowC w0
  obtain ⟨l1, rfl, hr1, hm1, hw1, hc1⟩ := ReadsInt.ofRowC w1
  obtain ⟨k, h⟩ := P l0 l1 hm0 y0 hw0 hm1 y1 hw1
  refine (laws_FnLevelled.calls k _ _ l0 _ _ l1 true w (Kd.C_of_reads (d := (0 : Int)) (h1 := fun _ => rfl) hr0) hc0 (Kd.C_of_reads (d := (0 : Int)) (h1 := fun _ => rfl) hr1) hc1 h).mono ?_
  rintro e w' ⟨rfl, hd⟩
  exact ⟨rfl, hd⟩

end Go.Proofs.YtgofcgjpmiojjaaDoor.QFnLevelled
