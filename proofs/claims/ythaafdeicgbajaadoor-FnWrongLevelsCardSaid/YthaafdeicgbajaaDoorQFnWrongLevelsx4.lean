/- FnWrongLevels: functions that it reaches, with what they compute and the proof that they do; written by a program of this session (wip/myprint.py). -/
import Derived.Test.YthaafdeicgbajaaDoorQFnWrongLevelsx0
import Derived.Test.YthaafdeicgbajaaDoorQFnWrongLevelsx1
import Derived.Test.YthaafdeicgbajaaDoorQFnWrongLevelsx3
namespace Go.Proofs.YthaafdeicgbajaaDoor.QFnWrongLevels
open Go.RowKit Go.Proofs.YthaafdeicgbajaaDoorW.PrintWords Go.Proofs.YthaafdeicgbajaaDoorW.PrintLast Go.Proofs.YthaafdeicgbajaaDoorW.PrintMore
attribute [local go_sem] max2_int min2_int max_two min_two max_three min_three max_four min_four   -- for this text's walks alone
set_option linter.unusedVariables false
set_option linter.unusedSimpArgs false

/-! ### impl_readLevels: function 51 -/
mutual
def impl_readLevels.l0 : Nat → Int → List Int → List Int → Int → Int → Option (ByteArray)
  | 0, _, _, _, _, _ => none
  | k + 1, x0, x1, x5, x6, x7 => if x7 < (x1.length : Int) then (if 0 ≤ x7 then (if x0 = 0 then ((impl_perBit.f x0).bind fun t225 => (if 0 ≤ (wrap64 ((wrap64 (x7 + t225)) - 1)) then (if (wrap64 ((wrap64 (x7 + t225)) - 1)) < (x1.length : Int) then ((impl_bitOf.f ((rd x1 x7) == 1)).bind fun t227 => (if x5.length + t227.size < 140737488355328 then ((impl_perBit.f x0).bind fun t231 => (impl_readLevels.l0 k x0 x1 (x5 ++ bytesOf t227) (rd x1 (wrap64 ((wrap64 (x7 + t225)) - 1))) (wrap64 (x7 + t231)))) else (none))) else (none)) else (none))) else (if x0 = 1 then (impl_readLevels.j1 k x0 x1 x5 x6 x7 (rd x1 x7) false x0 (x0 == 1)) else (impl_readLevels.j1 k x0 x1 x5 x6 x7 (rd x1 x7) false x0 (x0 == 5)))) else (none)) else (some (strOfNums x5))
def impl_readLevels.j1 : Nat → Int → List Int → List Int → Int → Int → Int → Bool → Int → Bool → Option (ByteArray)
  | 0, _, _, _, _, _, _, _, _, _ => none
  | k + 1, x0, x1, x5, x6, x7, x8, x9, x26, x31 => if x31 = true then ((impl_perBit.f x0).bind fun t232 => (if 0 ≤ (wrap64 ((wrap64 (x7 + t232)) - 1)) then (if (wrap64 ((wrap64 (x7 + t232)) - 1)) < (x1.length : Int) then ((impl_bitOf.f (x8 != x6)).bind fun t234 => (if x5.length + t234.size < 140737488355328 then ((impl_perBit.f x0).bind fun t238 => (impl_readLevels.l0 k x0 x1 (x5 ++ bytesOf t234) (rd x1 (wrap64 ((wrap64 (x7 + t232)) - 1))) (wrap64 (x7 + t238)))) else (none))) else (none)) else (none))) else (if x26 = 2 then (if 0 ≤ (wrap64 (x7 + 1)) then (if (wrap64 (x7 + 1)) < (x1.length : Int) then ((impl_perBit.f x0).bind fun t240 => (if 0 ≤ (wrap64 ((wrap64 (x7 + t240)) - 1)) then (if (wrap64 ((wrap64 (x7 + t240)) - 1)) < (x1.length : Int) then ((impl_bitOf.f (decide (x8 < (rd x1 (wrap64 (x7 + 1)))))).bind fun t242 => (if x5.length + t242.size < 140737488355328 then ((impl_perBit.f x0).bind fun t246 => (impl_readLevels.l0 k x0 x1 (x5 ++ bytesOf t242) (rd x1 (wrap64 ((wrap64 (x7 + t240)) - 1))) (wrap64 (x7 + t246)))) else (none))) else (none)) else (none))) else (none)) else (none)) else (if x26 = 3 then ((impl_perBit.f x0).bind fun t247 => (if 0 ≤ (wrap64 ((wrap64 (x7 + t247)) - 1)) then (if (wrap64 ((wrap64 (x7 + t247)) - 1)) < (x1.length : Int) then ((impl_bitOf.f (x8 == x6)).bind fun t249 => (if x5.length + t249.size < 140737488355328 then ((impl_perBit.f x0).bind fun t253 => (impl_readLevels.l0 k x0 x1 (x5 ++ bytesOf t249) (rd x1 (wrap64 ((wrap64 (x7 + t247)) - 1))) (wrap64 (x7 + t253)))) else (none))) else (none)) else (none))) else (if x26 = 4 then ((impl_perBit.f x0).bind fun t254 => (if 0 ≤ (wrap64 ((wrap64 (x7 + t254)) - 1)) then (if (wrap64 ((wrap64 (x7 + t254)) - 1)) < (x1.length : Int) then ((impl_bitOf.f (x8 != 0)).bind fun t256 => (if x5.length + t256.size < 140737488355328 then ((impl_perBit.f x0).bind fun t260 => (impl_readLevels.l0 k x0 x1 (x5 ++ bytesOf t256) (rd x1 (wrap64 ((wrap64 (x7 + t254)) - 1))) (wrap64 (x7 + t260)))) else (none))) else (none)) else (none))) else ((impl_perBit.f x0).bind fun t261 => (if 0 ≤ (wrap64 ((wrap64 (x7 + t261)) - 1)) then (if (wrap64 ((wrap64 (x7 + t261)) - 1)) < (x1.length : Int) then ((impl_bitOf.f x9).bind fun t263 => (if x5.length + t263.size < 140737488355328 then ((impl_perBit.f x0).bind fun t267 => (impl_readLevels.l0 k x0 x1 (x5 ++ bytesOf t263) (rd x1 (wrap64 ((wrap64 (x7 + t261)) - 1))) (wrap64 (x7 + t267)))) else (none))) else (none)) else (none))))))
end
def impl_readLevels.f (k : Nat) (a0 : Int) (l1 : List Int) : Option (ByteArray) := (impl_newWire.f a0).bind fun bt220 => (impl_readLevels.l0 k a0 l1 (([] : List Int)) bt220.2.1 0)
theorem impl_readLevels.mono_l : ∀ k, (∀ y0 y1 y2 y3 y4, LeO (impl_readLevels.l0 k y0 y1 y2 y3 y4) (impl_readLevels.l0 (k + 1) y0 y1 y2 y3 y4)) ∧ (∀ y0 y1 y2 y3 y4 y5 y6 y7 y8, LeO (impl_readLevels.j1 k y0 y1 y2 y3 y4 y5 y6 y7 y8) (impl_readLevels.j1 (k + 1) y0 y1 y2 y3 y4 y5 y6 y7 y8))
  | 0 => ⟨fun _ _ _ _ _ r h => by simp [impl_readLevels.l0] at h, fun _ _ _ _ _ _ _ _ _ r h => by simp [impl_readLevels.j1] at h⟩
  | k + 1 => by
    obtain ⟨ih0, ih1⟩ := impl_readLevels.mono_l k
    refine ⟨?_, ?_⟩
    · intro y0 y1 y2 y3 y4
      unfold impl_readLevels.l0
      repeat' first
      | (with_reducible exact ih0 _ _ _ _ _)
      | (with_reducible exact ih1 _ _ _ _ _ _ _ _ _)
      | (with_reducible exact LeO.refl _)
      | (with_reducible exact LeO.none _)
      | (with_reducible refine LeO.ite ?_ ?_)
      | (with_reducible refine LeO.bind ?_ (fun _ => ?_))
      | exact ih0 _ _ _ _ _
      | exact ih1 _ _ _ _ _ _ _ _ _
      | exact LeO.none _
      | refine LeO.ite ?_ ?_
      | refine LeO.bind ?_ (fun _ => ?_)
    · intro y0 y1 y2 y3 y4 y5 y6 y7 y8
      unfold impl_readLevels.j1
      repeat' first
      | (with_reducible exact ih0 _ _ _ _ _)
      | (with_reducible exact ih1 _ _ _ _ _ _ _ _ _)
      | (with_reducible exact LeO.refl _)
      | (with_reducible exact LeO.none _)
      | (with_reducible refine LeO.ite ?_ ?_)
      | (with_reducible refine LeO.bind ?_ (fun _ => ?_))
      | exact ih0 _ _ _ _ _
      | exact ih1 _ _ _ _ _ _ _ _ _
      | exact LeO.none _
      | refine LeO.ite ?_ ?_
      | refine LeO.bind ?_ (fun _ => ?_)
theorem impl_readLevels.mono : ∀ a0 a1 k, LeO (impl_readLevels.f k a0 a1) (impl_readLevels.f (k + 1) a0 a1) := by
  intro a0 a1 k
  obtain ⟨ih0, ih1⟩ := impl_readLevels.mono_l k
  unfold impl_readLevels.f
  repeat' first
      | (with_reducible exact ih0 _ _ _ _ _)
      | (with_reducible exact ih1 _ _ _ _ _ _ _ _ _)
      | (with_reducible exact LeO.refl _)
      | (with_reducible exact LeO.none _)
      | (with_reducible refine LeO.ite ?_ ?_)
      | (with_reducible refine LeO.bind ?_ (fun _ => ?_))
      | exact ih0 _ _ _ _ _
      | exact ih1 _ _ _ _ _ _ _ _ _
      | exact LeO.none _
      | refine LeO.ite ?_ ?_
      | refine LeO.bind ?_ (fun _ => ?_)
set_option maxHeartbeats 8000000 in
set_option maxRecDepth 100000 in
theorem impl_readLevels.calls (k : Nat) (a0 : Int) (A1 : Option Addr) (c1 : Nat) (l1 : List Int) (r : ByteArray) (w : World) (hr1 : Kd.C (Kd.int .i64) w A1 l1.length l1) (hc1 : l1.length ≤ c1) (h : impl_readLevels.f k a0 l1 = some r) :
    Calls Tryd.prog 51 #[.int .i64 a0, .slice A1 l1.length c1] w fun e w' => e = .returned (.string r) ∧ Below w.heap.size w w' := by
  have hu66 := Tryd.underlying66
  have hfd66_1 : ∀ (q0_ q1_ q2_ q3_ : Value) (w_ : World), (Instr.field 66 (.agg #[q0_, q1_, q2_, q3_]) 1).run Tryd.prog w_ = .ok q1_ w_ := fun q0_ q1_ q2_ q3_ _ => by kernel_rfl
  have HR1 := Aside0.mk hr1
  have HC1 := Aside0.mk hc1
  clear hr1 hc1
  have HB := Aside0.mk (Below.refl w.heap.size w)
  have H : ((impl_newWire.f a0).bind fun bt220 => (impl_readLevels.l0 k a0 l1 (([] : List Int)) bt220.2.1 0)) = some r := h
  clear h
  obtain ⟨y217, hy217⟩ : ∃ y_ : List Int, y_ = (([] : List Int)) := ⟨_, rfl⟩
  replace H : ((impl_newWire.f a0).bind fun bt220 => (impl_readLevels.l0 k a0 l1 y217 bt220.2.1 0)) = some r := by first | (rw [hy217]; with_reducible exact H) | (have H2_ := (Option.bind_some _ _).symm.trans H; rw [hy217]; with_reducible exact H2_) | (have H2_ := (Option.bind_some _ _).symm.trans H; with_reducible exact H2_) | with_reducible exact H | (rw [hy217]; exact H) | exact H
  have Ny217 := Aside0.mk hy217
  clear hy217
  replace H := Option.bind_eq_some_iff.mp H
  obtain ⟨⟨t220, t221, t222, t223⟩, A30, H⟩ := H
  replace H : (impl_readLevels.l0 k a0 l1 y217 t221 0) = some r := H
  have A3 := Aside0.mk A30
  clear A30
  have H' := Aside0.mk H
  clear H
  go_enter Tryd.func51, Tryd.ntmps51
  go_wp2_with (first | ((with_reducible refine gate_dst (N := 10) rfl ?_); refine Kd.R_lit (Kd.int .u8) _ 5 ?hg (N := 10) ?hd (xs := ([] : List Int)) (inner := []) (ok := fun _ => True) (okp := fun _ => True) ?hr ?hp (fun _ hk => hk) trivial (Below.refl _ _) (Nat.le_refl _) (by simp) ?_; (case hd => rfl); (case hg => rfl); (case hr => first | (go_simp; done) | (go_simp; rfl)); (case hp => exact (Reps.none _ _)); intro v218 w4 ho5 hb hg_ hnew_; clear hg_ hnew_; (first | rw [← Ny217.out] at ho5 | (simp only [Int.reduceToNat] at ho5; rw [← Ny217.out] at ho5)); have n0_ := Aside0.mk (Kd.R_lower ho5 (below_size (by repeat (first | (with_reducible first | exact HB.out | apply below_alloc | apply pw_below_drewN | apply below_drew1) | exact HB.out)))); have n1_ := Aside0.mk (below_step (by repeat (first | (with_reducible first | exact HB.out | apply below_alloc | apply pw_below_drewN | apply below_drew1) | exact HB.out)) hb); clear HB; have HO219 := n0_; have HB := n1_; clear n0_ n1_; clear hb ho5) | ((with_reducible refine gate_callee (f := 55) rfl ?_); refine goesL_ (some 12) rfl rfl Tryd.func55 (by kernel_rfl) rfl #[.int .i64 a0] rfl (by (try simp only [List.map_toArray, List.map_cons, List.map_nil]); first | done | rfl | (simp only [List.length_drop, List.length_take]; rfl)) ?_; (with_reducible refine (impl_newWire.calls a0 t220 t221 t222 t223 _ A3.out).mono ?_); rintro e w6 ⟨rfl, hb⟩; refine ⟨_, rfl, ?_⟩; have n0_ := Aside0.mk (Kd.R_below (by (with_reducible repeat (first | apply Kd.R_alloc | apply Kd.R_drewN | apply Kd.R_drew)); exact HO219.out) hb); have n1_ := Aside0.mk (below_step (by repeat (first | (with_reducible first | exact HB.out | apply below_alloc | apply pw_below_drewN | apply below_drew1) | exact HB.out)) hb); clear HO219; clear HB; have HO219 := n0_; have HB := n1_; clear n0_ n1_; (try clear hb); (try clear hb2); (try clear hk); (try clear hi)))
  go_loopg [5, 6, 7] k (fun kq v5 v6 v7 w' => ∃ (x5_1 : List Int) (x6_1 : Int) (x7_1 : Int), v6 = .int .i64 x6_1 ∧ v7 = .int .i64 x7_1 ∧ Aside0 (impl_readLevels.l0 kq a0 l1 x5_1 x6_1 x7_1 = some r) ∧ Aside0 (kq ≤ k) ∧ Aside0 (Kd.R (Kd.int .u8) 5 w' w.heap.size (fun _ => True) v5 x5_1) ∧ Aside0 (Below w.heap.size w w'))
  case atStart => exact ⟨(y217), (t221), (0), (by first | rfl | (simp; done) | (simp [*]; done)), (by first | rfl | (simp; done) | (simp [*]; done)), H', ⟨Nat.le_refl _⟩, ⟨by (with_reducible repeat (first | apply Kd.R_alloc | apply Kd.R_drewN | apply Kd.R_drew)); exact HO219.out⟩, ⟨by repeat (first | (with_reducible first | exact HB.out | apply below_alloc | apply pw_below_drewN | apply below_drew1) | exact HB.out)⟩⟩
  case round =>
    clear H'
    try clear c1
    try clear p2
    try clear c5
    obtain ⟨x5_1, x6_1, x7_1, rfl, rfl, HA, HK1, HO_5, HB⟩ := hrel
    cases gk with
    | zero => exact absurd HA.out (by simp [impl_readLevels.l0])
    | succ k1 =>
      have H := HA.out
      clear HA
      simp only [impl_readLevels.l0] at H
      by_cases c7 : x7_1 < (l1.length : Int)
      · rw [if_pos c7] at H
        have c7b0 : decide (x7_1 < (l1.length : Int)) = true := decide_eq_true c7
        clear c7
        by_cases c8 : 0 ≤ x7_1
        · rw [if_pos c8] at H
          have c8b0 : decide (0 ≤ x7_1) = true := decide_eq_true c8
          clear c8
          by_cases c9 : a0 = 0
          · rw [if_pos c9] at H
            have c9b0 : (a0 == 0) = true := beq_iff_eq.mpr c9
            have c9b1 : (a0 != 0) = false := bne_eq_false_iff_eq.mpr c9
            clear c9
            replace H := Option.bind_eq_some_iff.mp H
            obtain ⟨t225, A100, H⟩ := H
            replace H : (if 0 ≤ (wrap64 ((wrap64 (x7_1 + t225)) - 1)) then (if (wrap64 ((wrap64 (x7_1 + t225)) - 1)) < (l1.length : Int) then ((impl_bitOf.f ((rd l1 x7_1) == 1)).bind fun t227 => (if x5_1.length + t227.size < 140737488355328 then ((impl_perBit.f a0).bind fun t231 => (impl_readLevels.l0 k1 a0 l1 (x5_1 ++ bytesOf t227) (rd l1 (wrap64 ((wrap64 (x7_1 + t225)) - 1))) (wrap64 (x7_1 + t231)))) else (none))) else (none)) else (none)) = some r := H
            have A10 := Aside0.mk A100
            clear A100
            obtain ⟨ji11, hji11⟩ : ∃ j_ : Int, (wrap64 ((wrap64 (x7_1 + t225)) - 1)) = j_ := ⟨_, rfl⟩
            replace H : (if 0 ≤ (ji11) then (if (ji11) < (l1.length : Int) then ((impl_bitOf.f ((rd l1 x7_1) == 1)).bind fun t227 => (if x5_1.length + t227.size < 140737488355328 then ((impl_perBit.f a0).bind fun t231 => (impl_readLevels.l0 k1 a0 l1 (x5_1 ++ bytesOf t227) (rd l1 (ji11)) (wrap64 (x7_1 + t231)))) else (none))) else (none)) else (none)) = some r := by first | (rw [hji11] at H; exact H) | (simp only [hji11] at H ⊢; exact H)
            (try rw [hji11] at A10)
            have hji11w : (IntKind.i64.wrap ((wrap64 (x7_1 + t225)) - 1)) = ji11 := (i64_w _).trans hji11
            (try rw [hji11])
            by_cases c12 : 0 ≤ (ji11)
            · rw [if_pos c12] at H
              have c12b0 : decide (0 ≤ (ji11)) = true := decide_eq_true c12
              clear c12
              by_cases c13 : (ji11) < (l1.length : Int)
              · rw [if_pos c13] at H
                have c13b0 : decide ((ji11) < (l1.length : Int)) = true := decide_eq_true c13
                clear c13
                replace H := Option.bind_eq_some_iff.mp H
                obtain ⟨t227, A140, H⟩ := H
                replace H : (if x5_1.length + t227.size < 140737488355328 then ((impl_perBit.f a0).bind fun t231 => (impl_readLevels.l0 k1 a0 l1 (x5_1 ++ bytesOf t227) (rd l1 (ji11)) (wrap64 (x7_1 + t231)))) else (none)) = some r := H
                have A14 := Aside0.mk A140
                clear A140
                by_cases c15 : x5_1.length + t227.size < 140737488355328
                · rw [if_pos c15] at H
                  have LMc15 := Aside0.mk c15
                  clear c15
                  obtain ⟨y228, hy228⟩ : ∃ y_ : List Int, y_ = (x5_1 ++ bytesOf t227) := ⟨_, rfl⟩
                  replace H : ((impl_perBit.f a0).bind fun t231 => (impl_readLevels.l0 k1 a0 l1 y228 (rd l1 (ji11)) (wrap64 (x7_1 + t231)))) = some r := by first | (rw [hy228]; with_reducible exact H) | (have H2_ := (Option.bind_some _ _).symm.trans H; rw [hy228]; with_reducible exact H2_) | (have H2_ := (Option.bind_some _ _).symm.trans H; with_reducible exact H2_) | with_reducible exact H | (rw [hy228]; exact H) | exact H
                  have Ny228 := Aside0.mk hy228
                  clear hy228
                  replace H := Option.bind_eq_some_iff.mp H
                  obtain ⟨t231, A160, H⟩ := H
                  replace H : (impl_readLevels.l0 k1 a0 l1 y228 (rd l1 (ji11)) (wrap64 (x7_1 + t231))) = some r := H
                  have A16 := Aside0.mk A160
                  clear A160
                  have H' := Aside0.mk H
                  clear H
                  have p224 : 0 ≤ (x7_1 : Int) := of_decide_eq_true (by first | (with_reducible assumption) | assumption)
                  have q224 : x7_1 < (l1.length : Int) := of_decide_eq_true (by first | (with_reducible assumption) | assumption)
                  obtain ⟨ad224, e224, hx224_0⟩ := Kd.at_int HR1.out x7_1 p224 q224
                  cases e224
                  replace hx224_0 := (HB.out.cell (World.block_lt_of_cell? w _ hx224_0)).trans hx224_0
                  replace p224 := eq_true p224
                  replace q224 := eq_true q224
                  go_wp2_with (first | ((with_reducible refine gate_callee (f := 54) rfl ?_); refine goesL_ (some 58) rfl rfl Tryd.func54 (by kernel_rfl) rfl #[.int .i64 a0] rfl (by (try simp only [List.map_toArray, List.map_cons, List.map_nil]); first | done | rfl | (simp only [List.length_drop, List.length_take]; rfl)) ?_; (with_reducible refine (impl_perBit.calls a0 t225 _ A10.out).mono ?_); rintro e w' ⟨rfl, ⟨nd, rfl⟩⟩; refine ⟨_, rfl, ?_⟩; have p226 : 0 ≤ ((ji11) : Int) := of_decide_eq_true (by first | (with_reducible assumption) | assumption); have q226 : (ji11) < (l1.length : Int) := of_decide_eq_true (by first | (with_reducible assumption) | assumption); obtain ⟨ad226, e226, hx226_0⟩ := Kd.at_int HR1.out (ji11) p226 q226; obtain rfl : ad224 = ad226 := (by injection e226); replace hx226_0 := (HB.out.cell (World.block_lt_of_cell? w _ hx226_0)).trans hx226_0; replace p226 := eq_true p226; replace q226 := eq_true q226) | ((with_reducible refine gate_callee (f := 83) rfl ?_); refine goesL_ (some 65) rfl rfl Tryd.func83 (by kernel_rfl) rfl #[.bool ((rd l1 x7_1) == 1)] rfl (by (try simp only [List.map_toArray, List.map_cons, List.map_nil]); first | done | rfl | (simp only [List.length_drop, List.length_take]; rfl)) ?_; (with_reducible refine (impl_bitOf.calls ((rd l1 x7_1) == 1) t227 _ A14.out).mono ?_); rintro e w' ⟨rfl, ⟨nd, rfl⟩⟩; refine ⟨_, rfl, ?_⟩) | (at_builtin; refine print_append_str (w0 := w) w.heap.size rfl (.tmp 63) _ 25 9 5 rfl Tryd.underlying25 Tryd.underlying9 info5 u5 x5_1 t227 rfl rfl ?aO ?aB ?aS ?aL ?_; (case aB => exact (by repeat (first | (with_reducible first | exact HB.out | apply below_alloc | apply pw_below_drewN | apply below_drew1) | exact HB.out))); (case aO => exact (Kd.own_of_R (by (with_reducible repeat (first | apply Kd.R_alloc | apply Kd.R_drewN | apply Kd.R_drew)); exact HO_5.out))); (case aS => exact (below_size (by repeat (first | (with_reducible first | exact HB.out | apply below_alloc | apply pw_below_drewN | apply below_drew1) | exact HB.out)))); (case aL => have := LMc15.out; omega); intro v229 w17 ho0 hb hg; have ho := Kd.R_of_own (h1 := fun _ => rfl) (ok := fun _ => True) ho0 (fun _ _ => trivial); clear ho0; have hat := True.intro; rw [← Ny228.out] at ho; change Kd.R (Kd.int .u8) 5 w17 w.heap.size (fun _ => True) v229 y228 at ho; have n0_ := Aside0.mk (hb); have n1_ := Aside0.mk (ho); clear HB; clear HO_5; have HB := n0_; have HO230 := n1_; clear n0_ n1_; clear ho hb hg hat) | ((with_reducible refine gate_callee (f := 54) rfl ?_); refine goesL_ (some 20) rfl rfl Tryd.func54 (by kernel_rfl) rfl #[.int .i64 a0] rfl (by (try simp only [List.map_toArray, List.map_cons, List.map_nil]); first | done | rfl | (simp only [List.length_drop, List.length_take]; rfl)) ?_; (with_reducible refine (impl_perBit.calls a0 t231 _ A16.out).mono ?_); rintro e w' ⟨rfl, ⟨nd, rfl⟩⟩; refine ⟨_, rfl, ?_⟩))
                  go_roundg k1
                  case measure => have := HK1.out; omega
                  case rel => exact ⟨(y228), (rd l1 (ji11)), (wrap64 (x7_1 + t231)), (by first | rfl | (simp; done) | (simp only [← hji11] <;> (first | rfl | simp)) | (simp [*]; done)), (by first | rfl | (simp; done) | (simp [*]; done)), H', ⟨by have := HK1.out; omega⟩, ⟨by (with_reducible repeat (first | apply Kd.R_alloc | apply Kd.R_drewN | apply Kd.R_drew)); exact HO230.out⟩, ⟨by repeat (first | (with_reducible first | exact HB.out | apply below_alloc | apply pw_below_drewN | apply below_drew1) | exact HB.out)⟩⟩
                · rw [if_neg c15] at H
                  exact absurd H (by simp)
              · rw [if_neg c13] at H
                exact absurd H (by simp)
            · rw [if_neg c12] at H
              exact absurd H (by simp)
          · rw [if_neg c9] at H
            have c9b0 : (a0 == 0) = false := beq_eq_false_iff_ne.mpr c9
            have c9b1 : (a0 != 0) = true := bne_iff_ne.mpr c9
            have HC18 := Aside0.mk H
            clear H
            have p224 : 0 ≤ (x7_1 : Int) := of_decide_eq_true (by first | (with_reducible assumption) | assumption)
            have q224 : x7_1 < (l1.length : Int) := of_decide_eq_true (by first | (with_reducible assumption) | assumption)
            obtain ⟨ad224, e224, hx224_0⟩ := Kd.at_int HR1.out x7_1 p224 q224
            cases e224
            replace hx224_0 := (HB.out.cell (World.block_lt_of_cell? w _ hx224_0)).trans hx224_0
            replace p224 := eq_true p224
            replace q224 := eq_true q224
            go_upto_if 31 with (fail)
            go_cut [31] (fun v31 wc => ∃ (kq : Nat) (x31_17 : Bool), v31 = .bool x31_17 ∧ Aside0 (impl_readLevels.j1 kq a0 l1 x5_1 x6_1 x7_1 (rd l1 x7_1) false a0 x31_17 = some r) ∧ Aside0 (kq ≤ k1) ∧ Aside0 (Kd.R (Kd.int .u8) 5 wc w.heap.size (fun _ => True) u5 x5_1) ∧ Aside0 (Below w.heap.size w wc))
            case first =>
              have H := HC18.out
              clear HC18
              by_cases c19 : a0 = 1
              · rw [if_pos c19] at H
                have c19b0 : (a0 == 1) = true := beq_iff_eq.mpr c19
                have c19b1 : (a0 != 1) = false := bne_eq_false_iff_eq.mpr c19
                clear c19
                (first | rw [c19b0] | (simp only [i64_w, i32_w]; rw [c19b0]) | skip)
                have H' := Aside0.mk H
                clear H
                go_wp2
                go_meet
                case rel => exact ⟨_, ((a0 == 1)), (by first | rfl | (simp; done) | (simp [*]; done)), H', ⟨by have := HK1.out; first | omega | exact Nat.le_refl _⟩, ⟨by (with_reducible repeat (first | apply Kd.R_alloc | apply Kd.R_drewN | apply Kd.R_drew)); exact HO_5.out⟩, ⟨by repeat (first | (with_reducible first | exact HB.out | apply below_alloc | apply pw_below_drewN | apply below_drew1) | exact HB.out)⟩⟩
              · rw [if_neg c19] at H
                have c19b0 : (a0 == 1) = false := beq_eq_false_iff_ne.mpr c19
                have c19b1 : (a0 != 1) = true := bne_iff_ne.mpr c19
                (first | rw [c19b0] | (simp only [i64_w, i32_w]; rw [c19b0]) | skip)
                have H' := Aside0.mk H
                clear H
                go_wp2
                go_meet
                case rel => exact ⟨_, ((a0 == 5)), (by first | rfl | (simp; done) | (simp [*]; done)), H', ⟨by have := HK1.out; first | omega | exact Nat.le_refl _⟩, ⟨by (with_reducible repeat (first | apply Kd.R_alloc | apply Kd.R_drewN | apply Kd.R_drew)); exact HO_5.out⟩, ⟨by repeat (first | (with_reducible first | exact HB.out | apply below_alloc | apply pw_below_drewN | apply below_drew1) | exact HB.out)⟩⟩
            case rest =>
              clear HC18
              try clear c1
              try clear p2
              try clear q2
              try clear hx2
              try clear c5
              try clear p6
              try clear c7
              try clear c7b0
              try clear c8
              try clear c8b0
              try clear c9
              try clear c9b0
              try clear c9b1
              try clear c12
              try clear c12b0
              try clear c13
              try clear c13b0
              try clear c15
              try clear c19
              try clear c19b0
              try clear c19b1
              try clear hx224_0
              try clear hx226_0
              try clear p2
              try clear p224
              try clear p226
              try clear q224
              try clear q226
              obtain ⟨kq, x31_17, rfl, HA, HJ17, HO_5, HB⟩ := hcut
              cases kq with
              | zero => exact absurd HA.out (by simp [impl_readLevels.j1])
              | succ kj17 =>
                have H := HA.out
                clear HA
                simp only [impl_readLevels.j1] at H
                by_cases c20 : x31_17 = true
                · subst c20
                  have H1 : ((impl_perBit.f a0).bind fun t232 => (if 0 ≤ (wrap64 ((wrap64 (x7_1 + t232)) - 1)) then (if (wrap64 ((wrap64 (x7_1 + t232)) - 1)) < (l1.length : Int) then ((impl_bitOf.f ((rd l1 x7_1) != x6_1)).bind fun t234 => (if x5_1.length + t234.size < 140737488355328 then ((impl_perBit.f a0).bind fun t238 => (impl_readLevels.l0 kj17 a0 l1 (x5_1 ++ bytesOf t234) (rd l1 (wrap64 ((wrap64 (x7_1 + t232)) - 1))) (wrap64 (x7_1 + t238)))) else (none))) else (none)) else (none))) = some r := by rw [if_pos rfl] at H; exact H
                  clear H
                  have H := H1
                  clear H1
                  replace H := Option.bind_eq_some_iff.mp H
                  obtain ⟨t232, A210, H⟩ := H
                  replace H : (if 0 ≤ (wrap64 ((wrap64 (x7_1 + t232)) - 1)) then (if (wrap64 ((wrap64 (x7_1 + t232)) - 1)) < (l1.length : Int) then ((impl_bitOf.f ((rd l1 x7_1) != x6_1)).bind fun t234 => (if x5_1.length + t234.size < 140737488355328 then ((impl_perBit.f a0).bind fun t238 => (impl_readLevels.l0 kj17 a0 l1 (x5_1 ++ bytesOf t234) (rd l1 (wrap64 ((wrap64 (x7_1 + t232)) - 1))) (wrap64 (x7_1 + t238)))) else (none))) else (none)) else (none)) = some r := H
                  have A21 := Aside0.mk A210
                  clear A210
                  obtain ⟨ji22, hji22⟩ : ∃ j_ : Int, (wrap64 ((wrap64 (x7_1 + t232)) - 1)) = j_ := ⟨_, rfl⟩
                  replace H : (if 0 ≤ (ji22) then (if (ji22) < (l1.length : Int) then ((impl_bitOf.f ((rd l1 x7_1) != x6_1)).bind fun t234 => (if x5_1.length + t234.size < 140737488355328 then ((impl_perBit.f a0).bind fun t238 => (impl_readLevels.l0 kj17 a0 l1 (x5_1 ++ bytesOf t234) (rd l1 (ji22)) (wrap64 (x7_1 + t238)))) else (none))) else (none)) else (none)) = some r := by first | (rw [hji22] at H; exact H) | (simp only [hji22] at H ⊢; exact H)
                  (try rw [hji22] at A21)
                  have hji22w : (IntKind.i64.wrap ((wrap64 (x7_1 + t232)) - 1)) = ji22 := (i64_w _).trans hji22
                  (try rw [hji22])
                  by_cases c23 : 0 ≤ (ji22)
                  · rw [if_pos c23] at H
                    have c23b0 : decide (0 ≤ (ji22)) = true := decide_eq_true c23
                    clear c23
                    by_cases c24 : (ji22) < (l1.length : Int)
                    · rw [if_pos c24] at H
                      have c24b0 : decide ((ji22) < (l1.length : Int)) = true := decide_eq_true c24
                      clear c24
                      replace H := Option.bind_eq_some_iff.mp H
                      obtain ⟨t234, A250, H⟩ := H
                      replace H : (if x5_1.length + t234.size < 140737488355328 then ((impl_perBit.f a0).bind fun t238 => (impl_readLevels.l0 kj17 a0 l1 (x5_1 ++ bytesOf t234) (rd l1 (ji22)) (wrap64 (x7_1 + t238)))) else (none)) = some r := H
                      have A25 := Aside0.mk A250
                      clear A250
                      by_cases c26 : x5_1.length + t234.size < 140737488355328
                      · rw [if_pos c26] at H
                        have LMc26 := Aside0.mk c26
                        clear c26
                        obtain ⟨y235, hy235⟩ : ∃ y_ : List Int, y_ = (x5_1 ++ bytesOf t234) := ⟨_, rfl⟩
                        replace H : ((impl_perBit.f a0).bind fun t238 => (impl_readLevels.l0 kj17 a0 l1 y235 (rd l1 (ji22)) (wrap64 (x7_1 + t238)))) = some r := by first | (rw [hy235]; with_reducible exact H) | (have H2_ := (Option.bind_some _ _).symm.trans H; rw [hy235]; with_reducible exact H2_) | (have H2_ := (Option.bind_some _ _).symm.trans H; with_reducible exact H2_) | with_reducible exact H | (rw [hy235]; exact H) | exact H
                        have Ny235 := Aside0.mk hy235
                        clear hy235
                        replace H := Option.bind_eq_some_iff.mp H
                        obtain ⟨t238, A270, H⟩ := H
                        replace H : (impl_readLevels.l0 kj17 a0 l1 y235 (rd l1 (ji22)) (wrap64 (x7_1 + t238))) = some r := H
                        have A27 := Aside0.mk A270
                        clear A270
                        have H' := Aside0.mk H
                        clear H
                        go_wp2_with (first | ((with_reducible refine gate_callee (f := 54) rfl ?_); refine goesL_ (some 58) rfl rfl Tryd.func54 (by kernel_rfl) rfl #[.int .i64 a0] rfl (by (try simp only [List.map_toArray, List.map_cons, List.map_nil]); first | done | rfl | (simp only [List.length_drop, List.length_take]; rfl)) ?_; (with_reducible refine (impl_perBit.calls a0 t232 _ A21.out).mono ?_); rintro e w' ⟨rfl, ⟨nd, rfl⟩⟩; refine ⟨_, rfl, ?_⟩; have p233 : 0 ≤ ((ji22) : Int) := of_decide_eq_true (by first | (with_reducible assumption) | assumption); have q233 : (ji22) < (l1.length : Int) := of_decide_eq_true (by first | (with_reducible assumption) | assumption); obtain ⟨ad233, e233, hx233_0⟩ := Kd.at_int HR1.out (ji22) p233 q233; obtain rfl : ad224 = ad233 := (by injection e233); replace hx233_0 := (HB.out.cell (World.block_lt_of_cell? w _ hx233_0)).trans hx233_0; replace p233 := eq_true p233; replace q233 := eq_true q233) | ((with_reducible refine gate_callee (f := 83) rfl ?_); refine goesL_ (some 65) rfl rfl Tryd.func83 (by kernel_rfl) rfl #[.bool ((rd l1 x7_1) != x6_1)] rfl (by (try simp only [List.map_toArray, List.map_cons, List.map_nil]); first | done | rfl | (simp only [List.length_drop, List.length_take]; rfl)) ?_; (with_reducible refine (impl_bitOf.calls ((rd l1 x7_1) != x6_1) t234 _ A25.out).mono ?_); rintro e w' ⟨rfl, ⟨nd, rfl⟩⟩; refine ⟨_, rfl, ?_⟩) | (at_builtin; refine print_append_str (w0 := w) w.heap.size rfl (.tmp 63) _ 25 9 5 rfl Tryd.underlying25 Tryd.underlying9 info5 u5 x5_1 t234 rfl rfl ?aO ?aB ?aS ?aL ?_; (case aB => exact (by repeat (first | (with_reducible first | exact HB.out | apply below_alloc | apply pw_below_drewN | apply below_drew1) | exact HB.out))); (case aO => exact (Kd.own_of_R (by (with_reducible repeat (first | apply Kd.R_alloc | apply Kd.R_drewN | apply Kd.R_drew)); exact HO_5.out))); (case aS => exact (below_size (by repeat (first | (with_reducible first | exact HB.out | apply below_alloc | apply pw_below_drewN | apply below_drew1) | exact HB.out)))); (case aL => have := LMc26.out; omega); intro v236 w28 ho0 hb hg; have ho := Kd.R_of_own (h1 := fun _ => rfl) (ok := fun _ => True) ho0 (fun _ _ => trivial); clear ho0; have hat := True.intro; rw [← Ny235.out] at ho; change Kd.R (Kd.int .u8) 5 w28 w.heap.size (fun _ => True) v236 y235 at ho; have n0_ := Aside0.mk (hb); have n1_ := Aside0.mk (ho); clear HB; clear HO_5; have HB := n0_; have HO237 := n1_; clear n0_ n1_; clear ho hb hg hat) | ((with_reducible refine gate_callee (f := 54) rfl ?_); refine goesL_ (some 20) rfl rfl Tryd.func54 (by kernel_rfl) rfl #[.int .i64 a0] rfl (by (try simp only [List.map_toArray, List.map_cons, List.map_nil]); first | done | rfl | (simp only [List.length_drop, List.length_take]; rfl)) ?_; (with_reducible refine (impl_perBit.calls a0 t238 _ A27.out).mono ?_); rintro e w' ⟨rfl, ⟨nd, rfl⟩⟩; refine ⟨_, rfl, ?_⟩))
                        go_roundg kj17
                        case measure => have := HK1.out; have := HJ17.out; omega
                        case rel => exact ⟨(y235), (rd l1 (ji22)), (wrap64 (x7_1 + t238)), (by first | rfl | (simp; done) | (simp only [← hji22] <;> (first | rfl | simp)) | (simp [*]; done)), (by first | rfl | (simp; done) | (simp [*]; done)), H', ⟨by have := HK1.out; have := HJ17.out; omega⟩, ⟨by (with_reducible repeat (first | apply Kd.R_alloc | apply Kd.R_drewN | apply Kd.R_drew)); exact HO237.out⟩, ⟨by repeat (first | (with_reducible first | exact HB.out | apply below_alloc | apply pw_below_drewN | apply below_drew1) | exact HB.out)⟩⟩
                      · rw [if_neg c26] at H
                        exact absurd H (by simp)
                    · rw [if_neg c24] at H
                      exact absurd H (by simp)
                  · rw [if_neg c23] at H
                    exact absurd H (by simp)
                · replace c20 := Bool.eq_false_iff.mpr c20
                  subst c20
                  have H1 : (if a0 = 2 then (if 0 ≤ (wrap64 (x7_1 + 1)) then (if (wrap64 (x7_1 + 1)) < (l1.length : Int) then ((impl_perBit.f a0).bind fun t240 => (if 0 ≤ (wrap64 ((wrap64 (x7_1 + t240)) - 1)) then (if (wrap64 ((wrap64 (x7_1 + t240)) - 1)) < (l1.length : Int) then ((impl_bitOf.f (decide ((rd l1 x7_1) < (rd l1 (wrap64 (x7_1 + 1)))))).bind fun t242 => (if x5_1.length + t242.size < 140737488355328 then ((impl_perBit.f a0).bind fun t246 => (impl_readLevels.l0 kj17 a0 l1 (x5_1 ++ bytesOf t242) (rd l1 (wrap64 ((wrap64 (x7_1 + t240)) - 1))) (wrap64 (x7_1 + t246)))) else (none))) else (none)) else (none))) else (none)) else (none)) else (if a0 = 3 then ((impl_perBit.f a0).bind fun t247 => (if 0 ≤ (wrap64 ((wrap64 (x7_1 + t247)) - 1)) then (if (wrap64 ((wrap64 (x7_1 + t247)) - 1)) < (l1.length : Int) then ((impl_bitOf.f ((rd l1 x7_1) == x6_1)).bind fun t249 => (if x5_1.length + t249.size < 140737488355328 then ((impl_perBit.f a0).bind fun t253 => (impl_readLevels.l0 kj17 a0 l1 (x5_1 ++ bytesOf t249) (rd l1 (wrap64 ((wrap64 (x7_1 + t247)) - 1))) (wrap64 (x7_1 + t253)))) else (none))) else (none)) else (none))) else (if a0 = 4 then ((impl_perBit.f a0).bind fun t254 => (if 0 ≤ (wrap64 ((wrap64 (x7_1 + t254)) - 1)) then (if (wrap64 ((wrap64 (x7_1 + t254)) - 1)) < (l1.length : Int) then ((impl_bitOf.f ((rd l1 x7_1) != 0)).bind fun t256 => (if x5_1.length + t256.size < 140737488355328 then ((impl_perBit.f a0).bind fun t260 => (impl_readLevels.l0 kj17 a0 l1 (x5_1 ++ bytesOf t256) (rd l1 (wrap64 ((wrap64 (x7_1 + t254)) - 1))) (wrap64 (x7_1 + t260)))) else (none))) else (none)) else (none))) else ((impl_perBit.f a0).bind fun t261 => (if 0 ≤ (wrap64 ((wrap64 (x7_1 + t261)) - 1)) then (if (wrap64 ((wrap64 (x7_1 + t261)) - 1)) < (l1.length : Int) then ((impl_bitOf.f false).bind fun t263 => (if x5_1.length + t263.size < 140737488355328 then ((impl_perBit.f a0).bind fun t267 => (impl_readLevels.l0 kj17 a0 l1 (x5_1 ++ bytesOf t263) (rd l1 (wrap64 ((wrap64 (x7_1 + t261)) - 1))) (wrap64 (x7_1 + t267)))) else (none))) else (none)) else (none)))))) = some r := by rw [if_neg (show ¬ (false = true) by decide)] at H; exact H
                  clear H
                  have H := H1
                  clear H1
                  by_cases c29 : a0 = 2
                  · rw [if_pos c29] at H
                    have c29b0 : (a0 == 2) = true := beq_iff_eq.mpr c29
                    have c29b1 : (a0 != 2) = false := bne_eq_false_iff_eq.mpr c29
                    clear c29
                    obtain ⟨ji30, hji30⟩ : ∃ j_ : Int, (wrap64 (x7_1 + 1)) = j_ := ⟨_, rfl⟩
                    replace H : (if 0 ≤ (ji30) then (if (ji30) < (l1.length : Int) then ((impl_perBit.f a0).bind fun t240 => (if 0 ≤ (wrap64 ((wrap64 (x7_1 + t240)) - 1)) then (if (wrap64 ((wrap64 (x7_1 + t240)) - 1)) < (l1.length : Int) then ((impl_bitOf.f (decide ((rd l1 x7_1) < (rd l1 (ji30))))).bind fun t242 => (if x5_1.length + t242.size < 140737488355328 then ((impl_perBit.f a0).bind fun t246 => (impl_readLevels.l0 kj17 a0 l1 (x5_1 ++ bytesOf t242) (rd l1 (wrap64 ((wrap64 (x7_1 + t240)) - 1))) (wrap64 (x7_1 + t246)))) else (none))) else (none)) else (none))) else (none)) else (none)) = some r := by first | (rw [hji30] at H; exact H) | (simp only [hji30] at H ⊢; exact H)
                    have hji30w : (IntKind.i64.wrap (x7_1 + 1)) = ji30 := (i64_w _).trans hji30
                    (try rw [hji30])
                    by_cases c31 : 0 ≤ (ji30)
                    · rw [if_pos c31] at H
                      have c31b0 : decide (0 ≤ (ji30)) = true := decide_eq_true c31
                      clear c31
                      by_cases c32 : (ji30) < (l1.length : Int)
                      · rw [if_pos c32] at H
                        have c32b0 : decide ((ji30) < (l1.length : Int)) = true := decide_eq_true c32
                        clear c32
                        replace H := Option.bind_eq_some_iff.mp H
                        obtain ⟨t240, A330, H⟩ := H
                        replace H : (if 0 ≤ (wrap64 ((wrap64 (x7_1 + t240)) - 1)) then (if (wrap64 ((wrap64 (x7_1 + t240)) - 1)) < (l1.length : Int) then ((impl_bitOf.f (decide ((rd l1 x7_1) < (rd l1 (ji30))))).bind fun t242 => (if x5_1.length + t242.size < 140737488355328 then ((impl_perBit.f a0).bind fun t246 => (impl_readLevels.l0 kj17 a0 l1 (x5_1 ++ bytesOf t242) (rd l1 (wrap64 ((wrap64 (x7_1 + t240)) - 1))) (wrap64 (x7_1 + t246)))) else (none))) else (none)) else (none)) = some r := H
                        have A33 := Aside0.mk A330
                        clear A330
                        obtain ⟨ji34, hji34⟩ : ∃ j_ : Int, (wrap64 ((wrap64 (x7_1 + t240)) - 1)) = j_ := ⟨_, rfl⟩
                        replace H : (if 0 ≤ (ji34) then (if (ji34) < (l1.length : Int) then ((impl_bitOf.f (decide ((rd l1 x7_1) < (rd l1 (ji30))))).bind fun t242 => (if x5_1.length + t242.size < 140737488355328 then ((impl_perBit.f a0).bind fun t246 => (impl_readLevels.l0 kj17 a0 l1 (x5_1 ++ bytesOf t242) (rd l1 (ji34)) (wrap64 (x7_1 + t246)))) else (none))) else (none)) else (none)) = some r := by first | (rw [hji34] at H; exact H) | (simp only [hji34] at H ⊢; exact H)
                        (try rw [hji34] at A33)
                        have hji34w : (IntKind.i64.wrap ((wrap64 (x7_1 + t240)) - 1)) = ji34 := (i64_w _).trans hji34
                        (try rw [hji34])
                        by_cases c35 : 0 ≤ (ji34)
                        · rw [if_pos c35] at H
                          have c35b0 : decide (0 ≤ (ji34)) = true := decide_eq_true c35
                          clear c35
                          by_cases c36 : (ji34) < (l1.length : Int)
                          · rw [if_pos c36] at H
                            have c36b0 : decide ((ji34) < (l1.length : Int)) = true := decide_eq_true c36
                            clear c36
                            replace H := Option.bind_eq_some_iff.mp H
                            obtain ⟨t242, A370, H⟩ := H
                            replace H : (if x5_1.length + t242.size < 140737488355328 then ((impl_perBit.f a0).bind fun t246 => (impl_readLevels.l0 kj17 a0 l1 (x5_1 ++ bytesOf t242) (rd l1 (ji34)) (wrap64 (x7_1 + t246)))) else (none)) = some r := H
                            have A37 := Aside0.mk A370
                            clear A370
                            by_cases c38 : x5_1.length + t242.size < 140737488355328
                            · rw [if_pos c38] at H
                              have LMc38 := Aside0.mk c38
                              clear c38
                              obtain ⟨y243, hy243⟩ : ∃ y_ : List Int, y_ = (x5_1 ++ bytesOf t242) := ⟨_, rfl⟩
                              replace H : ((impl_perBit.f a0).bind fun t246 => (impl_readLevels.l0 kj17 a0 l1 y243 (rd l1 (ji34)) (wrap64 (x7_1 + t246)))) = some r := by first | (rw [hy243]; with_reducible exact H) | (have H2_ := (Option.bind_some _ _).symm.trans H; rw [hy243]; with_reducible exact H2_) | (have H2_ := (Option.bind_some _ _).symm.trans H; with_reducible exact H2_) | with_reducible exact H | (rw [hy243]; exact H) | exact H
                              have Ny243 := Aside0.mk hy243
                              clear hy243
                              replace H := Option.bind_eq_some_iff.mp H
                              obtain ⟨t246, A390, H⟩ := H
                              replace H : (impl_readLevels.l0 kj17 a0 l1 y243 (rd l1 (ji34)) (wrap64 (x7_1 + t246))) = some r := H
                              have A39 := Aside0.mk A390
                              clear A390
                              have H' := Aside0.mk H
                              clear H
                              have p239 : 0 ≤ ((ji30) : Int) := of_decide_eq_true (by first | (with_reducible assumption) | assumption)
                              have q239 : (ji30) < (l1.length : Int) := of_decide_eq_true (by first | (with_reducible assumption) | assumption)
                              obtain ⟨ad239, e239, hx239_0⟩ := Kd.at_int HR1.out (ji30) p239 q239
                              obtain rfl : ad224 = ad239 := (by injection e239)
                              replace hx239_0 := (HB.out.cell (World.block_lt_of_cell? w _ hx239_0)).trans hx239_0
                              replace p239 := eq_true p239
                              replace q239 := eq_true q239
                              go_wp2_with (first | ((with_reducible refine gate_callee (f := 54) rfl ?_); refine goesL_ (some 58) rfl rfl Tryd.func54 (by kernel_rfl) rfl #[.int .i64 a0] rfl (by (try simp only [List.map_toArray, List.map_cons, List.map_nil]); first | done | rfl | (simp only [List.length_drop, List.length_take]; rfl)) ?_; (with_reducible refine (impl_perBit.calls a0 t240 _ A33.out).mono ?_); rintro e w' ⟨rfl, ⟨nd, rfl⟩⟩; refine ⟨_, rfl, ?_⟩; have p241 : 0 ≤ ((ji34) : Int) := of_decide_eq_true (by first | (with_reducible assumption) | assumption); have q241 : (ji34) < (l1.length : Int) := of_decide_eq_true (by first | (with_reducible assumption) | assumption); obtain ⟨ad241, e241, hx241_0⟩ := Kd.at_int HR1.out (ji34) p241 q241; obtain rfl : ad224 = ad241 := (by injection e241); replace hx241_0 := (HB.out.cell (World.block_lt_of_cell? w _ hx241_0)).trans hx241_0; replace p241 := eq_true p241; replace q241 := eq_true q241) | ((with_reducible refine gate_callee (f := 83) rfl ?_); refine goesL_ (some 65) rfl rfl Tryd.func83 (by kernel_rfl) rfl #[.bool (decide ((rd l1 x7_1) < (rd l1 (ji30))))] rfl (by (try simp only [List.map_toArray, List.map_cons, List.map_nil]); first | done | (simp only [hji30]; rfl) | rfl | (simp only [List.length_drop, List.length_take]; rfl)) ?_; (with_reducible refine (impl_bitOf.calls (decide ((rd l1 x7_1) < (rd l1 (ji30)))) t242 _ A37.out).mono ?_); rintro e w' ⟨rfl, ⟨nd, rfl⟩⟩; refine ⟨_, rfl, ?_⟩) | (at_builtin; refine print_append_str (w0 := w) w.heap.size rfl (.tmp 63) _ 25 9 5 rfl Tryd.underlying25 Tryd.underlying9 info5 u5 x5_1 t242 rfl rfl ?aO ?aB ?aS ?aL ?_; (case aB => exact (by repeat (first | (with_reducible first | exact HB.out | apply below_alloc | apply pw_below_drewN | apply below_drew1) | exact HB.out))); (case aO => exact (Kd.own_of_R (by (with_reducible repeat (first | apply Kd.R_alloc | apply Kd.R_drewN | apply Kd.R_drew)); exact HO_5.out))); (case aS => exact (below_size (by repeat (first | (with_reducible first | exact HB.out | apply below_alloc | apply pw_below_drewN | apply below_drew1) | exact HB.out)))); (case aL => have := LMc38.out; omega); intro v244 w40 ho0 hb hg; have ho := Kd.R_of_own (h1 := fun _ => rfl) (ok := fun _ => True) ho0 (fun _ _ => trivial); clear ho0; have hat := True.intro; rw [← Ny243.out] at ho; change Kd.R (Kd.int .u8) 5 w40 w.heap.size (fun _ => True) v244 y243 at ho; have n0_ := Aside0.mk (hb); have n1_ := Aside0.mk (ho); clear HB; clear HO_5; have HB := n0_; have HO245 := n1_; clear n0_ n1_; clear ho hb hg hat) | ((with_reducible refine gate_callee (f := 54) rfl ?_); refine goesL_ (some 20) rfl rfl Tryd.func54 (by kernel_rfl) rfl #[.int .i64 a0] rfl (by (try simp only [List.map_toArray, List.map_cons, List.map_nil]); first | done | rfl | (simp only [List.length_drop, List.length_take]; rfl)) ?_; (with_reducible refine (impl_perBit.calls a0 t246 _ A39.out).mono ?_); rintro e w' ⟨rfl, ⟨nd, rfl⟩⟩; refine ⟨_, rfl, ?_⟩))
                              go_roundg kj17
                              case measure => have := HK1.out; have := HJ17.out; omega
                              case rel => exact ⟨(y243), (rd l1 (ji34)), (wrap64 (x7_1 + t246)), (by first | rfl | (simp; done) | (simp only [← hji34] <;> (first | rfl | simp)) | (simp [*]; done)), (by first | rfl | (simp; done) | (simp [*]; done)), H', ⟨by have := HK1.out; have := HJ17.out; omega⟩, ⟨by (with_reducible repeat (first | apply Kd.R_alloc | apply Kd.R_drewN | apply Kd.R_drew)); exact HO245.out⟩, ⟨by repeat (first | (with_reducible first | exact HB.out | apply below_alloc | apply pw_below_drewN | apply below_drew1) | exact HB.out)⟩⟩
                            · rw [if_neg c38] at H
                              exact absurd H (by simp)
                          · rw [if_neg c36] at H
                            exact absurd H (by simp)
                        · rw [if_neg c35] at H
                          exact absurd H (by simp)
                      · rw [if_neg c32] at H
                        exact absurd H (by simp)
                    · rw [if_neg c31] at H
                      exact absurd H (by simp)
                  · rw [if_neg c29] at H
                    have c29b0 : (a0 == 2) = false := beq_eq_false_iff_ne.mpr c29
                    have c29b1 : (a0 != 2) = true := bne_iff_ne.mpr c29
                    by_cases c41 : a0 = 3
                    · rw [if_pos c41] at H
                      have c41b0 : (a0 == 3) = true := beq_iff_eq.mpr c41
                      have c41b1 : (a0 != 3) = false := bne_eq_false_iff_eq.mpr c41
                      clear c41
                      replace H := Option.bind_eq_some_iff.mp H
                      obtain ⟨t247, A420, H⟩ := H
                      replace H : (if 0 ≤ (wrap64 ((wrap64 (x7_1 + t247)) - 1)) then (if (wrap64 ((wrap64 (x7_1 + t247)) - 1)) < (l1.length : Int) then ((impl_bitOf.f ((rd l1 x7_1) == x6_1)).bind fun t249 => (if x5_1.length + t249.size < 140737488355328 then ((impl_perBit.f a0).bind fun t253 => (impl_readLevels.l0 kj17 a0 l1 (x5_1 ++ bytesOf t249) (rd l1 (wrap64 ((wrap64 (x7_1 + t247)) - 1))) (wrap64 (x7_1 + t253)))) else (none))) else (none)) else (none)) = some r := H
                      have A42 := Aside0.mk A420
                      clear A420
                      obtain ⟨ji43, hji43⟩ : ∃ j_ : Int, (wrap64 ((wrap64 (x7_1 + t247)) - 1)) = j_ := ⟨_, rfl⟩
                      replace H : (if 0 ≤ (ji43) then (if (ji43) < (l1.length : Int) then ((impl_bitOf.f ((rd l1 x7_1) == x6_1)).bind fun t249 => (if x5_1.length + t249.size < 140737488355328 then ((impl_perBit.f a0).bind fun t253 => (impl_readLevels.l0 kj17 a0 l1 (x5_1 ++ bytesOf t249) (rd l1 (ji43)) (wrap64 (x7_1 + t253)))) else (none))) else (none)) else (none)) = some r := by first | (rw [hji43] at H; exact H) | (simp only [hji43] at H ⊢; exact H)
                      (try rw [hji43] at A42)
                      have hji43w : (IntKind.i64.wrap ((wrap64 (x7_1 + t247)) - 1)) = ji43 := (i64_w _).trans hji43
                      (try rw [hji43])
                      by_cases c44 : 0 ≤ (ji43)
                      · rw [if_pos c44] at H
                        have c44b0 : decide (0 ≤ (ji43)) = true := decide_eq_true c44
                        clear c44
                        by_cases c45 : (ji43) < (l1.length : Int)
                        · rw [if_pos c45] at H
                          have c45b0 : decide ((ji43) < (l1.length : Int)) = true := decide_eq_true c45
                          clear c45
                          replace H := Option.bind_eq_some_iff.mp H
                          obtain ⟨t249, A460, H⟩ := H
                          replace H : (if x5_1.length + t249.size < 140737488355328 then ((impl_perBit.f a0).bind fun t253 => (impl_readLevels.l0 kj17 a0 l1 (x5_1 ++ bytesOf t249) (rd l1 (ji43)) (wrap64 (x7_1 + t253)))) else (none)) = some r := H
                          have A46 := Aside0.mk A460
                          clear A460
                          by_cases c47 : x5_1.length + t249.size < 140737488355328
                          · rw [if_pos c47] at H
                            have LMc47 := Aside0.mk c47
                            clear c47
                            obtain ⟨y250, hy250⟩ : ∃ y_ : List Int, y_ = (x5_1 ++ bytesOf t249) := ⟨_, rfl⟩
                            replace H : ((impl_perBit.f a0).bind fun t253 => (impl_readLevels.l0 kj17 a0 l1 y250 (rd l1 (ji43)) (wrap64 (x7_1 + t253)))) = some r := by first | (rw [hy250]; with_reducible exact H) | (have H2_ := (Option.bind_some _ _).symm.trans H; rw [hy250]; with_reducible exact H2_) | (have H2_ := (Option.bind_some _ _).symm.trans H; with_reducible exact H2_) | with_reducible exact H | (rw [hy250]; exact H) | exact H
                            have Ny250 := Aside0.mk hy250
                            clear hy250
                            replace H := Option.bind_eq_some_iff.mp H
                            obtain ⟨t253, A480, H⟩ := H
                            replace H : (impl_readLevels.l0 kj17 a0 l1 y250 (rd l1 (ji43)) (wrap64 (x7_1 + t253))) = some r := H
                            have A48 := Aside0.mk A480
                            clear A480
                            have H' := Aside0.mk H
                            clear H
                            go_wp2_with (first | ((with_reducible refine gate_callee (f := 54) rfl ?_); refine goesL_ (some 58) rfl rfl Tryd.func54 (by kernel_rfl) rfl #[.int .i64 a0] rfl (by (try simp only [List.map_toArray, List.map_cons, List.map_nil]); first | done | rfl | (simp only [List.length_drop, List.length_take]; rfl)) ?_; (with_reducible refine (impl_perBit.calls a0 t247 _ A42.out).mono ?_); rintro e w' ⟨rfl, ⟨nd, rfl⟩⟩; refine ⟨_, rfl, ?_⟩; have p248 : 0 ≤ ((ji43) : Int) := of_decide_eq_true (by first | (with_reducible assumption) | assumption); have q248 : (ji43) < (l1.length : Int) := of_decide_eq_true (by first | (with_reducible assumption) | assumption); obtain ⟨ad248, e248, hx248_0⟩ := Kd.at_int HR1.out (ji43) p248 q248; obtain rfl : ad224 = ad248 := (by injection e248); replace hx248_0 := (HB.out.cell (World.block_lt_of_cell? w _ hx248_0)).trans hx248_0; replace p248 := eq_true p248; replace q248 := eq_true q248) | ((with_reducible refine gate_callee (f := 83) rfl ?_); refine goesL_ (some 65) rfl rfl Tryd.func83 (by kernel_rfl) rfl #[.bool ((rd l1 x7_1) == x6_1)] rfl (by (try simp only [List.map_toArray, List.map_cons, List.map_nil]); first | done | rfl | (simp only [List.length_drop, List.length_take]; rfl)) ?_; (with_reducible refine (impl_bitOf.calls ((rd l1 x7_1) == x6_1) t249 _ A46.out).mono ?_); rintro e w' ⟨rfl, ⟨nd, rfl⟩⟩; refine ⟨_, rfl, ?_⟩) | (at_builtin; refine print_append_str (w0 := w) w.heap.size rfl (.tmp 63) _ 25 9 5 rfl Tryd.underlying25 Tryd.underlying9 info5 u5 x5_1 t249 rfl rfl ?aO ?aB ?aS ?aL ?_; (case aB => exact (by repeat (first | (with_reducible first | exact HB.out | apply below_alloc | apply pw_below_drewN | apply below_drew1) | exact HB.out))); (case aO => exact (Kd.own_of_R (by (with_reducible repeat (first | apply Kd.R_alloc | apply Kd.R_drewN | apply Kd.R_drew)); exact HO_5.out))); (case aS => exact (below_size (by repeat (first | (with_reducible first | exact HB.out | apply below_alloc | apply pw_below_drewN | apply below_drew1) | exact HB.out)))); (case aL => have := LMc47.out; omega); intro v251 w49 ho0 hb hg; have ho := Kd.R_of_own (h1 := fun _ => rfl) (ok := fun _ => True) ho0 (fun _ _ => trivial); clear ho0; have hat := True.intro; rw [← Ny250.out] at ho; change Kd.R (Kd.int .u8) 5 w49 w.heap.size (fun _ => True) v251 y250 at ho; have n0_ := Aside0.mk (hb); have n1_ := Aside0.mk (ho); clear HB; clear HO_5; have HB := n0_; have HO252 := n1_; clear n0_ n1_; clear ho hb hg hat) | ((with_reducible refine gate_callee (f := 54) rfl ?_); refine goesL_ (some 20) rfl rfl Tryd.func54 (by kernel_rfl) rfl #[.int .i64 a0] rfl (by (try simp only [List.map_toArray, List.map_cons, List.map_nil]); first | done | rfl | (simp only [List.length_drop, List.length_take]; rfl)) ?_; (with_reducible refine (impl_perBit.calls a0 t253 _ A48.out).mono ?_); rintro e w' ⟨rfl, ⟨nd, rfl⟩⟩; refine ⟨_, rfl, ?_⟩))
                            go_roundg kj17
                            case measure => have := HK1.out; have := HJ17.out; omega
                            case rel => exact ⟨(y250), (rd l1 (ji43)), (wrap64 (x7_1 + t253)), (by first | rfl | (simp; done) | (simp only [← hji43] <;> (first | rfl | simp)) | (simp [*]; done)), (by first | rfl | (simp; done) | (simp [*]; done)), H', ⟨by have := HK1.out; have := HJ17.out; omega⟩, ⟨by (with_reducible repeat (first | apply Kd.R_alloc | apply Kd.R_drewN | apply Kd.R_drew)); exact HO252.out⟩, ⟨by repeat (first | (with_reducible first | exact HB.out | apply below_alloc | apply pw_below_drewN | apply below_drew1) | exact HB.out)⟩⟩
                          · rw [if_neg c47] at H
                            exact absurd H (by simp)
                        · rw [if_neg c45] at H
                          exact absurd H (by simp)
                      · rw [if_neg c44] at H
                        exact absurd H (by simp)
                    · rw [if_neg c41] at H
                      have c41b0 : (a0 == 3) = false := beq_eq_false_iff_ne.mpr c41
                      have c41b1 : (a0 != 3) = true := bne_iff_ne.mpr c41
                      by_cases c50 : a0 = 4
                      · rw [if_pos c50] at H
                        have c50b0 : (a0 == 4) = true := beq_iff_eq.mpr c50
                        have c50b1 : (a0 != 4) = false := bne_eq_false_iff_eq.mpr c50
                        clear c50
                        replace H := Option.bind_eq_some_iff.mp H
                        obtain ⟨t254, A510, H⟩ := H
                        replace H : (if 0 ≤ (wrap64 ((wrap64 (x7_1 + t254)) - 1)) then (if (wrap64 ((wrap64 (x7_1 + t254)) - 1)) < (l1.length : Int) then ((impl_bitOf.f ((rd l1 x7_1) != 0)).bind fun t256 => (if x5_1.length + t256.size < 140737488355328 then ((impl_perBit.f a0).bind fun t260 => (impl_readLevels.l0 kj17 a0 l1 (x5_1 ++ bytesOf t256) (rd l1 (wrap64 ((wrap64 (x7_1 + t254)) - 1))) (wrap64 (x7_1 + t260)))) else (none))) else (none)) else (none)) = some r := H
                        have A51 := Aside0.mk A510
                        clear A510
                        obtain ⟨ji52, hji52⟩ : ∃ j_ : Int, (wrap64 ((wrap64 (x7_1 + t254)) - 1)) = j_ := ⟨_, rfl⟩
                        replace H : (if 0 ≤ (ji52) then (if (ji52) < (l1.length : Int) then ((impl_bitOf.f ((rd l1 x7_1) != 0)).bind fun t256 => (if x5_1.length + t256.size < 140737488355328 then ((impl_perBit.f a0).bind fun t260 => (impl_readLevels.l0 kj17 a0 l1 (x5_1 ++ bytesOf t256) (rd l1 (ji52)) (wrap64 (x7_1 + t260)))) else (none))) else (none)) else (none)) = some r := by first | (rw [hji52] at H; exact H) | (simp only [hji52] at H ⊢; exact H)
                        (try rw [hji52] at A51)
                        have hji52w : (IntKind.i64.wrap ((wrap64 (x7_1 + t254)) - 1)) = ji52 := (i64_w _).trans hji52
                        (try rw [hji52])
                        by_cases c53 : 0 ≤ (ji52)
                        · rw [if_pos c53] at H
                          have c53b0 : decide (0 ≤ (ji52)) = true := decide_eq_true c53
                          clear c53
                          by_cases c54 : (ji52) < (l1.length : Int)
                          · rw [if_pos c54] at H
                            have c54b0 : decide ((ji52) < (l1.length : Int)) = true := decide_eq_true c54
                            clear c54
                            replace H := Option.bind_eq_some_iff.mp H
                            obtain ⟨t256, A550, H⟩ := H
                            replace H : (if x5_1.length + t256.size < 140737488355328 then ((impl_perBit.f a0).bind fun t260 => (impl_readLevels.l0 kj17 a0 l1 (x5_1 ++ bytesOf t256) (rd l1 (ji52)) (wrap64 (x7_1 + t260)))) else (none)) = some r := H
                            have A55 := Aside0.mk A550
                            clear A550
                            by_cases c56 : x5_1.length + t256.size < 140737488355328
                            · rw [if_pos c56] at H
                              have LMc56 := Aside0.mk c56
                              clear c56
                              obtain ⟨y257, hy257⟩ : ∃ y_ : List Int, y_ = (x5_1 ++ bytesOf t256) := ⟨_, rfl⟩
                              replace H : ((impl_perBit.f a0).bind fun t260 => (impl_readLevels.l0 kj17 a0 l1 y257 (rd l1 (ji52)) (wrap64 (x7_1 + t260)))) = some r := by first | (rw [hy257]; with_reducible exact H) | (have H2_ := (Option.bind_some _ _).symm.trans H; rw [hy257]; with_reducible exact H2_) | (have H2_ := (Option.bind_some _ _).symm.trans H; with_reducible exact H2_) | with_reducible exact H | (rw [hy257]; exact H) | exact H
                              have Ny257 := Aside0.mk hy257
                              clear hy257
                              replace H := Option.bind_eq_some_iff.mp H
                              obtain ⟨t260, A570, H⟩ := H
                              replace H : (impl_readLevels.l0 kj17 a0 l1 y257 (rd l1 (ji52)) (wrap64 (x7_1 + t260))) = some r := H
                              have A57 := Aside0.mk A570
                              clear A570
                              have H' := Aside0.mk H
                              clear H
                              go_wp2_with (first | ((with_reducible refine gate_callee (f := 54) rfl ?_); refine goesL_ (some 58) rfl rfl Tryd.func54 (by kernel_rfl) rfl #[.int .i64 a0] rfl (by (try simp only [List.map_toArray, List.map_cons, List.map_nil]); first | done | rfl | (simp only [List.length_drop, List.length_take]; rfl)) ?_; (with_reducible refine (impl_perBit.calls a0 t254 _ A51.out).mono ?_); rintro e w' ⟨rfl, ⟨nd, rfl⟩⟩; refine ⟨_, rfl, ?_⟩; have p255 : 0 ≤ ((ji52) : Int) := of_decide_eq_true (by first | (with_reducible assumption) | assumption); have q255 : (ji52) < (l1.length : Int) := of_decide_eq_true (by first | (with_reducible assumption) | assumption); obtain ⟨ad255, e255, hx255_0⟩ := Kd.at_int HR1.out (ji52) p255 q255; obtain rfl : ad224 = ad255 := (by injection e255); replace hx255_0 := (HB.out.cell (World.block_lt_of_cell? w _ hx255_0)).trans hx255_0; replace p255 := eq_true p255; replace q255 := eq_true q255) | ((with_reducible refine gate_callee (f := 83) rfl ?_); refine goesL_ (some 65) rfl rfl Tryd.func83 (by kernel_rfl) rfl #[.bool ((rd l1 x7_1) != 0)] rfl (by (try simp only [List.map_toArray, List.map_cons, List.map_nil]); first | done | rfl | (simp only [List.length_drop, List.length_take]; rfl)) ?_; (with_reducible refine (impl_bitOf.calls ((rd l1 x7_1) != 0) t256 _ A55.out).mono ?_); rintro e w' ⟨rfl, ⟨nd, rfl⟩⟩; refine ⟨_, rfl, ?_⟩) | (at_builtin; refine print_append_str (w0 := w) w.heap.size rfl (.tmp 63) _ 25 9 5 rfl Tryd.underlying25 Tryd.underlying9 info5 u5 x5_1 t256 rfl rfl ?aO ?aB ?aS ?aL ?_; (case aB => exact (by repeat (first | (with_reducible first | exact HB.out | apply below_alloc | apply pw_below_drewN | apply below_drew1) | exact HB.out))); (case aO => exact (Kd.own_of_R (by (with_reducible repeat (first | apply Kd.R_alloc | apply Kd.R_drewN | apply Kd.R_drew)); exact HO_5.out))); (case aS => exact (below_size (by repeat (first | (with_reducible first | exact HB.out | apply below_alloc | apply pw_below_drewN | apply below_drew1) | exact HB.out)))); (case aL => have := LMc56.out; omega); intro v258 w58 ho0 hb hg; have ho := Kd.R_of_own (h1 := fun _ => rfl) (ok := fun _ => True) ho0 (fun _ _ => trivial); clear ho0; have hat := True.intro; rw [← Ny257.out] at ho; change Kd.R (Kd.int .u8) 5 w58 w.heap.size (fun _ => True) v258 y257 at ho; have n0_ := Aside0.mk (hb); have n1_ := Aside0.mk (ho); clear HB; clear HO_5; have HB := n0_; have HO259 := n1_; clear n0_ n1_; clear ho hb hg hat) | ((with_reducible refine gate_callee (f := 54) rfl ?_); refine goesL_ (some 20) rfl rfl Tryd.func54 (by kernel_rfl) rfl #[.int .i64 a0] rfl (by (try simp only [List.map_toArray, List.map_cons, List.map_nil]); first | done | rfl | (simp only [List.length_drop, List.length_take]; rfl)) ?_; (with_reducible refine (impl_perBit.calls a0 t260 _ A57.out).mono ?_); rintro e w' ⟨rfl, ⟨nd, rfl⟩⟩; refine ⟨_, rfl, ?_⟩))
                              go_roundg kj17
                              case measure => have := HK1.out; have := HJ17.out; omega
                              case rel => exact ⟨(y257), (rd l1 (ji52)), (wrap64 (x7_1 + t260)), (by first | rfl | (simp; done) | (simp only [← hji52] <;> (first | rfl | simp)) | (simp [*]; done)), (by first | rfl | (simp; done) | (simp [*]; done)), H', ⟨by have := HK1.out; have := HJ17.out; omega⟩, ⟨by (with_reducible repeat (first | apply Kd.R_alloc | apply Kd.R_drewN | apply Kd.R_drew)); exact HO259.out⟩, ⟨by repeat (first | (with_reducible first | exact HB.out | apply below_alloc | apply pw_below_drewN | apply below_drew1) | exact HB.out)⟩⟩
                            · rw [if_neg c56] at H
                              exact absurd H (by simp)
                          · rw [if_neg c54] at H
                            exact absurd H (by simp)
                        · rw [if_neg c53] at H
                          exact absurd H (by simp)
                      · rw [if_neg c50] at H
                        have c50b0 : (a0 == 4) = false := beq_eq_false_iff_ne.mpr c50
                        have c50b1 : (a0 != 4) = true := bne_iff_ne.mpr c50
                        replace H := Option.bind_eq_some_iff.mp H
                        obtain ⟨t261, A590, H⟩ := H
                        replace H : (if 0 ≤ (wrap64 ((wrap64 (x7_1 + t261)) - 1)) then (if (wrap64 ((wrap64 (x7_1 + t261)) - 1)) < (l1.length : Int) then ((impl_bitOf.f false).bind fun t263 => (if x5_1.length + t263.size < 140737488355328 then ((impl_perBit.f a0).bind fun t267 => (impl_readLevels.l0 kj17 a0 l1 (x5_1 ++ bytesOf t263) (rd l1 (wrap64 ((wrap64 (x7_1 + t261)) - 1))) (wrap64 (x7_1 + t267)))) else (none))) else (none)) else (none)) = some r := H
                        have A59 := Aside0.mk A590
                        clear A590
                        obtain ⟨ji60, hji60⟩ : ∃ j_ : Int, (wrap64 ((wrap64 (x7_1 + t261)) - 1)) = j_ := ⟨_, rfl⟩
                        replace H : (if 0 ≤ (ji60) then (if (ji60) < (l1.length : Int) then ((impl_bitOf.f false).bind fun t263 => (if x5_1.length + t263.size < 140737488355328 then ((impl_perBit.f a0).bind fun t267 => (impl_readLevels.l0 kj17 a0 l1 (x5_1 ++ bytesOf t263) (rd l1 (ji60)) (wrap64 (x7_1 + t267)))) else (none))) else (none)) else (none)) = some r := by first | (rw [hji60] at H; exact H) | (simp only [hji60] at H ⊢; exact H)
                        (try rw [hji60] at A59)
                        have hji60w : (IntKind.i64.wrap ((wrap64 (x7_1 + t261)) - 1)) = ji60 := (i64_w _).trans hji60
                        (try rw [hji60])
                        by_cases c61 : 0 ≤ (ji60)
                        · rw [if_pos c61] at H
                          have c61b0 : decide (0 ≤ (ji60)) = true := decide_eq_true c61
                          clear c61
                          by_cases c62 : (ji60) < (l1.length : Int)
                          · rw [if_pos c62] at H
                            have c62b0 : decide ((ji60) < (l1.length : Int)) = true := decide_eq_true c62
                            clear c62
                            replace H := Option.bind_eq_some_iff.mp H
                            obtain ⟨t263, A630, H⟩ := H
                            replace H : (if x5_1.length + t263.size < 140737488355328 then ((impl_perBit.f a0).bind fun t267 => (impl_readLevels.l0 kj17 a0 l1 (x5_1 ++ bytesOf t263) (rd l1 (ji60)) (wrap64 (x7_1 + t267)))) else (none)) = some r := H
                            have A63 := Aside0.mk A630
                            clear A630
                            by_cases c64 : x5_1.length + t263.size < 140737488355328
                            · rw [if_pos c64] at H
                              have LMc64 := Aside0.mk c64
                              clear c64
                              obtain ⟨y264, hy264⟩ : ∃ y_ : List Int, y_ = (x5_1 ++ bytesOf t263) := ⟨_, rfl⟩
                              replace H : ((impl_perBit.f a0).bind fun t267 => (impl_readLevels.l0 kj17 a0 l1 y264 (rd l1 (ji60)) (wrap64 (x7_1 + t267)))) = some r := by first | (rw [hy264]; with_reducible exact H) | (have H2_ := (Option.bind_some _ _).symm.trans H; rw [hy264]; with_reducible exact H2_) | (have H2_ := (Option.bind_some _ _).symm.trans H; with_reducible exact H2_) | with_reducible exact H | (rw [hy264]; exact H) | exact H
                              have Ny264 := Aside0.mk hy264
                              clear hy264
                              replace H := Option.bind_eq_some_iff.mp H
                              obtain ⟨t267, A650, H⟩ := H
                              replace H : (impl_readLevels.l0 kj17 a0 l1 y264 (rd l1 (ji60)) (wrap64 (x7_1 + t267))) = some r := H
                              have A65 := Aside0.mk A650
                              clear A650
                              have H' := Aside0.mk H
                              clear H
                              go_wp2_with (first | ((with_reducible refine gate_callee (f := 54) rfl ?_); refine goesL_ (some 58) rfl rfl Tryd.func54 (by kernel_rfl) rfl #[.int .i64 a0] rfl (by (try simp only [List.map_toArray, List.map_cons, List.map_nil]); first | done | rfl | (simp only [List.length_drop, List.length_take]; rfl)) ?_; (with_reducible refine (impl_perBit.calls a0 t261 _ A59.out).mono ?_); rintro e w' ⟨rfl, ⟨nd, rfl⟩⟩; refine ⟨_, rfl, ?_⟩; have p262 : 0 ≤ ((ji60) : Int) := of_decide_eq_true (by first | (with_reducible assumption) | assumption); have q262 : (ji60) < (l1.length : Int) := of_decide_eq_true (by first | (with_reducible assumption) | assumption); obtain ⟨ad262, e262, hx262_0⟩ := Kd.at_int HR1.out (ji60) p262 q262; obtain rfl : ad224 = ad262 := (by injection e262); replace hx262_0 := (HB.out.cell (World.block_lt_of_cell? w _ hx262_0)).trans hx262_0; replace p262 := eq_true p262; replace q262 := eq_true q262) | ((with_reducible refine gate_callee (f := 83) rfl ?_); refine goesL_ (some 65) rfl rfl Tryd.func83 (by kernel_rfl) rfl #[.bool false] rfl (by (try simp only [List.map_toArray, List.map_cons, List.map_nil]); first | done | rfl | (simp only [List.length_drop, List.length_take]; rfl)) ?_; (with_reducible refine (impl_bitOf.calls false t263 _ A63.out).mono ?_); rintro e w' ⟨rfl, ⟨nd, rfl⟩⟩; refine ⟨_, rfl, ?_⟩) | (at_builtin; refine print_append_str (w0 := w) w.heap.size rfl (.tmp 63) _ 25 9 5 rfl Tryd.underlying25 Tryd.underlying9 info5 u5 x5_1 t263 rfl rfl ?aO ?aB ?aS ?aL ?_; (case aB => exact (by repeat (first | (with_reducible first | exact HB.out | apply below_alloc | apply pw_below_drewN | apply below_drew1) | exact HB.out))); (case aO => exact (Kd.own_of_R (by (with_reducible repeat (first | apply Kd.R_alloc | apply Kd.R_drewN | apply Kd.R_drew)); exact HO_5.out))); (case aS => exact (below_size (by repeat (first | (with_reducible first | exact HB.out | apply below_alloc | apply pw_below_drewN | apply below_drew1) | exact HB.out)))); (case aL => have := LMc64.out; omega); intro v265 w66 ho0 hb hg; have ho := Kd.R_of_own (h1 := fun _ => rfl) (ok := fun _ => True) ho0 (fun _ _ => trivial); clear ho0; have hat := True.intro; rw [← Ny264.out] at ho; change Kd.R (Kd.int .u8) 5 w66 w.heap.size (fun _ => True) v265 y264 at ho; have n0_ := Aside0.mk (hb); have n1_ := Aside0.mk (ho); clear HB; clear HO_5; have HB := n0_; have HO266 := n1_; clear n0_ n1_; clear ho hb hg hat) | ((with_reducible refine gate_callee (f := 54) rfl ?_); refine goesL_ (some 20) rfl rfl Tryd.func54 (by kernel_rfl) rfl #[.int .i64 a0] rfl (by (try simp only [List.map_toArray, List.map_cons, List.map_nil]); first | done | rfl | (simp only [List.length_drop, List.length_take]; rfl)) ?_; (with_reducible refine (impl_perBit.calls a0 t267 _ A65.out).mono ?_); rintro e w' ⟨rfl, ⟨nd, rfl⟩⟩; refine ⟨_, rfl, ?_⟩))
                              go_roundg kj17
                              case measure => have := HK1.out; have := HJ17.out; omega
                              case rel => exact ⟨(y264), (rd l1 (ji60)), (wrap64 (x7_1 + t267)), (by first | rfl | (simp; done) | (simp only [← hji60] <;> (first | rfl | simp)) | (simp [*]; done)), (by first | rfl | (simp; done) | (simp [*]; done)), H', ⟨by have := HK1.out; have := HJ17.out; omega⟩, ⟨by (with_reducible repeat (first | apply Kd.R_alloc | apply Kd.R_drewN | apply Kd.R_drew)); exact HO266.out⟩, ⟨by repeat (first | (with_reducible first | exact HB.out | apply below_alloc | apply pw_below_drewN | apply below_drew1) | exact HB.out)⟩⟩
                            · rw [if_neg c64] at H
                              exact absurd H (by simp)
                          · rw [if_neg c62] at H
                            exact absurd H (by simp)
                        · rw [if_neg c61] at H
                          exact absurd H (by simp)
        · rw [if_neg c8] at H
          exact absurd H (by simp)
      · rw [if_neg c7] at H
        have c7b0 : decide (x7_1 < (l1.length : Int)) = false := decide_eq_false c7
        clear c7
        obtain rfl := Option.some.inj H
        have hcv67 := own_string (P := Tryd.prog) Tryd.underlying25 Tryd.underlying5 Tryd.underlying9 (Kd.own_of_R HO_5.out)
        go_wp2
        go_ret
        exact ⟨by first | rfl | (simp [errW_none, errW_some] <;> rfl) | (simp [*, errW_none, errW_some] <;> rfl), by repeat (first | (with_reducible first | exact HB.out | apply below_alloc | apply pw_below_drewN | apply below_drew1) | exact HB.out)⟩

end Go.Proofs.YthaafdeicgbajaaDoor.QFnWrongLevels
