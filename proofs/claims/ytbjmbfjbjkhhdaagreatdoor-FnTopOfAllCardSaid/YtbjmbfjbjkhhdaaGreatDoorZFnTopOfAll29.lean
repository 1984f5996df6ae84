/- Made small by wip/pack.py: lemmas and contracts that the law's row leans on. -/
import Derived.Test.YtbjmbfjbjkhhdaaGreatDoorZFnTopOfAll27
import Derived.Test.YtbjmbfjbjkhhdaaGreatDoorZFnTopOfAll28
namespace Go.Proofs.YtbjmbfjbjkhhdaaGreatDoor.QFnTopOfAll
open Go.RowKit Go.Proofs.YtbjmbfjbjkhhdaaGreatDoorW.PrintWords Go.Proofs.YtbjmbfjbjkhhdaaGreatDoorW.PrintLast Go.Proofs.YtbjmbfjbjkhhdaaGreatDoorW.PrintMore
attribute [local go_sem] max2_int min2_int max_two min_two max_three min_three max_four min_four
set_option linter.unusedVariables false
set_option linter.unusedSimpArgs false
mutual
def impl_MakeBlockCode.j0 : Nat → Int → Int → Bool → Option (Int × Int × List ByteArray × List ByteArray × Bool)
 | 0, _, _, _ => none
 | k + 1, x0, x1, x19 => if x19 = true then (some (0, 0, ([] : List ByteArray), ([] : List ByteArray), false)) else (if 0 ≤ x0 then ((impl_wordsOf.f k x1 0).bind fun t123 => (if 0 ≤ (mn (t123.length : Int) (shl .i64 1 x0)) then (if (mn (t123.length : Int) (shl .i64 1 x0)) ≤ (t123.length : Int) then ((some (t123.take ((mn (t123.length : Int) (shl .i64 1 x0)) : Int).toNat : List ByteArray)).bind fun y126 => ((impl_wordsOf.f k x1 2).bind fun t129 => (if (wrap64 ((y126.length : Int) + (t129.length : Int))) < (shl .i64 1 x0) then (some (0, 0, ([] : List ByteArray), ([] : List ByteArray), false)) else ((slices_Clone_string_string.f y126).bind fun t132 => ((slices_Clone_string_string.f y126).bind fun t135 => (if 0 ≤ (wrap64 ((shl .i64 1 x0) - (y126.length : Int))) then (if (wrap64 ((shl .i64 1 x0) - (y126.length : Int))) ≤ (t129.length : Int) then ((some (t129.take ((wrap64 ((shl .i64 1 x0) - (y126.length : Int))) : Int).toNat : List ByteArray)).bind fun y139 => (impl_MakeBlockCode.l0 k y139 (y139.length : Int) 0 x0 x1 t132 t135)) else (none)) else (none))))))) else (none)) else (none))) else (none))
def impl_MakeBlockCode.l0 : Nat → List ByteArray → Int → Int → Int → Int → List ByteArray → List ByteArray → Option (Int × Int × List ByteArray × List ByteArray × Bool)
 | 0, _, _, _, _, _, _, _ => none
 | k + 1, x53, x54, x55, x139000, x139001, x139002, x139003 => if x55 < x54 then (if 0 ≤ x55 then (if x55 < (x53.length : Int) then (if x139002.length < 8796093022208 then ((impl_opposite.f k (rdOf ByteArray.empty x53 x55)).bind fun t147 => (if x139003.length < 8796093022208 then (impl_MakeBlockCode.l0 k x53 x54 (wrap64 (x55 + 1)) x139000 x139001 (x139002 ++ [rdOf ByteArray.empty x53 x55]) (x139003 ++ [t147])) else (none))) else (none)) else (none)) else (none)) else (some (x139000, x139001, x139002, x139003, true))
end
def impl_MakeBlockCode.f (k : Nat) (a0 : Int) (a1 : Int) : Option (Int × Int × List ByteArray × List ByteArray × Bool) := (impl_isData.f a0).bind fun t121 => (if t121 = true then ((impl_isWidth.f a1).bind fun t122 => (impl_MakeBlockCode.j0 k a0 a1 (!t122))) else (impl_MakeBlockCode.j0 k a0 a1 true))
theorem impl_MakeBlockCode.mono_l : ∀ k, (∀ y0 y1 y2, LeO (impl_MakeBlockCode.j0 k y0 y1 y2) (impl_MakeBlockCode.j0 (k + 1) y0 y1 y2)) ∧ (∀ y0 y1 y2 y3 y4 y5 y6, LeO (impl_MakeBlockCode.l0 k y0 y1 y2 y3 y4 y5 y6) (impl_MakeBlockCode.l0 (k + 1) y0 y1 y2 y3 y4 y5 y6))
 | 0 => ⟨fun _ _ _ r h => by simp [impl_MakeBlockCode.j0] at h, fun _ _ _ _ _ _ _ r h => by simp [impl_MakeBlockCode.l0] at h⟩
 | k + 1 => by
  obtain ⟨ih0, ih1⟩ := impl_MakeBlockCode.mono_l k
  refine ⟨?_, ?_⟩
  all_goals (intros; first | unfold impl_MakeBlockCode.j0 | unfold impl_MakeBlockCode.l0)
  all_goals (repeat' first
   | (with_reducible exact ih0 _ _ _)
   | (with_reducible exact ih1 _ _ _ _ _ _ _)
   | (with_reducible exact impl_opposite.mono _ _)
   | (with_reducible exact impl_wordsOf.mono _ _ _)
   | (with_reducible exact LeO.refl _)
   | (with_reducible exact LeO.none _)
   | (with_reducible refine LeO.ite ?_ ?_)
   | (with_reducible refine LeO.bind ?_ (fun _ => ?_))
   | exact ih0 _ _ _
   | exact ih1 _ _ _ _ _ _ _
   | exact impl_opposite.mono _ _
   | exact impl_wordsOf.mono _ _ _
   | exact LeO.none _
   | refine LeO.ite ?_ ?_
   | refine LeO.bind ?_ (fun _ => ?_))
theorem impl_MakeBlockCode.mono : ∀ a0 a1 k, LeO (impl_MakeBlockCode.f k a0 a1) (impl_MakeBlockCode.f (k + 1) a0 a1) := by
 intro a0 a1 k
 obtain ⟨ih0, ih1⟩ := impl_MakeBlockCode.mono_l k
 unfold impl_MakeBlockCode.f
 repeat' first
  | (with_reducible exact ih0 _ _ _)
  | (with_reducible exact ih1 _ _ _ _ _ _ _)
  | (with_reducible exact impl_opposite.mono _ _)
  | (with_reducible exact impl_wordsOf.mono _ _ _)
  | (with_reducible exact LeO.refl _)
  | (with_reducible exact LeO.none _)
  | (with_reducible refine LeO.ite ?_ ?_)
  | (with_reducible refine LeO.bind ?_ (fun _ => ?_))
  | exact ih0 _ _ _
  | exact ih1 _ _ _ _ _ _ _
  | exact impl_opposite.mono _ _
  | exact impl_wordsOf.mono _ _ _
  | exact LeO.none _
  | refine LeO.ite ?_ ?_
  | refine LeO.bind ?_ (fun _ => ?_)
def impl_MakeBlockCode.T14 : Bool × List (List Nat × List Nat) := (true, [([], []), ([0], [0]), ([], []), ([2], [2]), ([3], [3]), ([1, 4, 3], [1, 4]), ([0, 1, 2, 3, 4, 5], []), ([6, 5, 5, 0, 1, 2, 3, 4, 5], [5, 6])])
def impl_MakeBlockCode.B14 : List Nat := [0, 1, 0, 4, 12, 31, 63, 127]
theorem impl_MakeBlockCode.tab14 : rtab .any (opsOf Tryz.f4 14) = impl_MakeBlockCode.T14 := by kernel_rfl
theorem impl_MakeBlockCode.bits14 : waitsOk impl_MakeBlockCode.T14.2 impl_MakeBlockCode.B14 = true := by kernel_rfl
set_option maxHeartbeats 8000000 in
set_option maxRecDepth 100000 in
theorem impl_MakeBlockCode.calls (k : Nat) (a0 : Int) (a1 : Int) (r1 : Int) (r2 : Int) (r3 : List ByteArray) (r4 : List ByteArray) (r5 : Bool) (w : World) (h : impl_MakeBlockCode.f k a0 a1 = some (r1, r2, r3, r4, r5)) :
 Calls Tryz.prog 4 #[.int .i64 a0, .int .i64 a1] w fun e w' => ∃ v2_ v3_ : Value, e = .returned (.tuple #[.agg #[.int .i64 r1, .int .i64 r2, v2_, v3_], .bool r5]) ∧ Kd.R Kd.string 9 w' w.heap.size (fun k_ => some k_ ≠ (v3_ : Value).ownBlock) v2_ r3 ∧ Kd.R Kd.string 9 w' w.heap.size (fun k_ => some k_ ≠ (v2_ : Value).ownBlock) v3_ r4 ∧ Below w.heap.size w w' := by
 have hu25 := Tryz.underlying25
 have HB := Aside0.mk (Below.refl w.heap.size w)
 have H : ((impl_isData.f a0).bind fun t121 => (if t121 = true then ((impl_isWidth.f a1).bind fun t122 => (impl_MakeBlockCode.j0 k a0 a1 (!t122))) else (impl_MakeBlockCode.j0 k a0 a1 true))) = some (r1, r2, r3, r4, r5) := h
 clear h
 have HC3 := Aside0.mk H
 clear H
 go_enter Tryz.func4, Tryz.ntmps4
 go_upto_region 1 with (first | ((with_reducible refine gate_dst (N := 4) rfl ?_); refine box_event ?hg (N := 4) ?hd (cs := #[.int .i64 0, .int .i64 0, .slice none 0 0, .slice none 0 0]) (t := 25) ?hr ?_; (case hd => rfl); (case hg => rfl); (case hr => exact Qh0_); intro gb120 hg w4 hbox hb; have n0_ := Aside0.mk (below_step Qa0_ hb); have n1_ := Aside0.mk (hbox); have n2_ := Aside0.mk ((Qp1_ : w.heap.size ≤ gb120)); have n3_ := Aside0.mk ((Qp1_ : w.heap.size ≤ gb120)); clear HB; have HB := n0_; have BK120 := n1_; have GW120 := n2_; have GE120 := n3_; clear n0_ n1_ n2_ n3_; clear hb hbox hg))
 (try simp only [Act.put, List.setIfInBounds_toArray, List.set_cons_zero, List.set_cons_succ])
 go_cut [19] (fun v19 wc => ∃ (kq : Nat) (x19_2 : Bool), v19 = .bool x19_2 ∧ Aside0 (impl_MakeBlockCode.j0 kq a0 a1 x19_2 = some (r1, r2, r3, r4, r5)) ∧ Aside0 (kq ≤ k) ∧ Aside0 (wc.heap[gb120]? = some (.cells #[.int .i64 0, .int .i64 0, (.slice none 0 0), (.slice none 0 0)] 25 (0, 0))) ∧ Aside0 (Below w.heap.size w wc))
 case first =>
  have H := HC3.out
  clear HC3
  replace H := Option.bind_eq_some_iff.mp H
  obtain ⟨t121, A50, H⟩ := H
  try dsimp only at H
  have A5 := Aside0.mk A50
  clear A50
  by_cases c6 : t121 = true
  ·subst c6
   rw [if_pos rfl] at H
   have H1 := H
   clear H
   have H := H1
   clear H1
   replace H := Option.bind_eq_some_iff.mp H
   obtain ⟨t122, A70, H⟩ := H
   try dsimp only at H
   have A7 := Aside0.mk A70
   clear A70
   have H' := Aside0.mk H
   clear H
   go_wp2_with (first | ((with_reducible refine gate_callee (f := 21) rfl ?_); refine goesL_ (some 13) rfl rfl Tryz.func21 Qi0_ rfl #[.int .i64 a0] rfl Qb0_ ?_; (with_reducible refine (impl_isData.calls a0 true _ A5.out).mono ?_); rintro e w' ⟨rfl, ⟨nd, rfl⟩⟩; refine ⟨_, rfl, ?_⟩) | (go_at_call 22; (with_reducible refine (impl_isWidth.calls a1 t122 _ A7.out).mono ?_); rintro e w' ⟨rfl, ⟨nd, rfl⟩⟩))
   go_meet
   case rel => exact ⟨_, (!t122), Qc0_, H', ⟨Qa1_⟩, ⟨Qk_ BK120.out⟩, ⟨Qg_ GE120.out⟩⟩
  ·replace c6 := Bool.eq_false_iff.mpr c6
   subst c6
   rw [if_neg (show ¬ (false = true) by decide)] at H
   have H1 := H
   clear H
   have H := H1
   clear H1
   have H' := Aside0.mk H
   clear H
   go_wp2_with (first | ((with_reducible refine gate_callee (f := 21) rfl ?_); refine goesL_ (some 13) rfl rfl Tryz.func21 Qi0_ rfl #[.int .i64 a0] rfl Qb0_ ?_; (with_reducible refine (impl_isData.calls a0 false _ A5.out).mono ?_); rintro e w' ⟨rfl, ⟨nd, rfl⟩⟩; refine ⟨_, rfl, ?_⟩))
   go_meet
   case rel => exact ⟨_, (true), Qc0_, H', ⟨Qa1_⟩, ⟨Qk_ BK120.out⟩, ⟨Qg_ GE120.out⟩⟩
 case rest =>
  clear HC3
  try clear c2
  try clear p2
  try clear c4
  try clear c6
  obtain ⟨kq, x19_2, rfl, HA, HJ2, BK120, HB⟩ := hcut
  cases kq with
  | zero => exact absurd HA.out (by simp [impl_MakeBlockCode.j0])
  | succ kj2 =>
   have H := HA.out
   clear HA
   simp only [impl_MakeBlockCode.j0] at H
   by_cases c8 : x19_2 = true
   ·subst c8
    rw [if_pos rfl] at H
    have H1 := H
    clear H
    have H := H1
    clear H1
    simp only [Option.some.injEq, Prod.mk.injEq] at H
    obtain ⟨rfl, rfl, rfl, rfl, rfl⟩ := H
    have hcz9_0 : wc.cell? ⟨gb120, 0, none⟩ = some (.int .i64 0) := (blk_cell BK120.out 0).trans rfl
    have hcz9_1 : wc.cell? ⟨gb120, 1, none⟩ = some (.int .i64 0) := (blk_cell BK120.out 1).trans rfl
    have hcz9_2 : wc.cell? ⟨gb120, 2, none⟩ = some (.slice none 0 0) := (blk_cell BK120.out 2).trans rfl
    have hcz9_3 : wc.cell? ⟨gb120, 3, none⟩ = some (.slice none 0 0) := (blk_cell BK120.out 3).trans rfl
    have hfz9_0 := blk_frozen BK120.out 0
    have hfz9_1 := blk_frozen BK120.out 1
    have hfz9_2 := blk_frozen BK120.out 2
    have hfz9_3 := blk_frozen BK120.out 3
    go_wp2
    refine bodyPost_ret (results_ct rfl _ _ gb120 25 #[.int .i64 0, .int .i64 0, .slice none 0 0, .slice none 0 0] (0, 0) _ rfl Qq0_ Tryz.underlying25 rfl Qi0_) rfl ?_
    exact ⟨_, _, Qe0_, Qy0_, Qy0_, Qg_ GE120.out⟩
   ·replace c8 := Bool.eq_false_iff.mpr c8
    subst c8
    rw [if_neg (show ¬ (false = true) by decide)] at H
    have H1 := H
    clear H
    have H := H1
    clear H1
    by_cases c10 : 0 ≤ a0
    ·rw [if_pos c10] at H
     have c10b0 := eq_true c10
     have c10b1 := decide_eq_true c10
     clear c10
     obtain ⟨ji11, hji11⟩ : ∃ j_ : Int, (shl .i64 1 a0) = j_ := ⟨_, rfl⟩
     replace H : ((impl_wordsOf.f kj2 a1 0).bind fun t123 => (if 0 ≤ (mn (t123.length : Int) (ji11)) then (if (mn (t123.length : Int) (ji11)) ≤ (t123.length : Int) then ((some (t123.take ((mn (t123.length : Int) (ji11)) : Int).toNat : List ByteArray)).bind fun y126 => ((impl_wordsOf.f kj2 a1 2).bind fun t129 => (if (wrap64 ((y126.length : Int) + (t129.length : Int))) < (ji11) then (some (0, 0, ([] : List ByteArray), ([] : List ByteArray), false)) else ((slices_Clone_string_string.f y126).bind fun t132 => ((slices_Clone_string_string.f y126).bind fun t135 => (if 0 ≤ (wrap64 ((ji11) - (y126.length : Int))) then (if (wrap64 ((ji11) - (y126.length : Int))) ≤ (t129.length : Int) then ((some (t129.take ((wrap64 ((ji11) - (y126.length : Int))) : Int).toNat : List ByteArray)).bind fun y139 => (impl_MakeBlockCode.l0 kj2 y139 (y139.length : Int) 0 a0 a1 t132 t135)) else (none)) else (none))))))) else (none)) else (none))) = some (r1, r2, r3, r4, r5) := by first | (rw [hji11] at H; exact H) | (simp only [hji11] at H ⊢; exact H)
     have hji11_ : (IntKind.i64.wrap (1 * 2 ^ min a0.toNat 64)) = ji11 := hji11
     have hji11z : a0 ≤ 64 → (IntKind.i64.wrap (1 * 2 ^ a0.toNat)) = ji11 := shl_small hji11
     have hji11u : (IntKind.i64.wrap (2 ^ min a0.toNat 64)) = ji11 := by have h_ := hji11_; rw [Int.one_mul] at h_; exact h_
     have hji11v : a0 ≤ 64 → (IntKind.i64.wrap (2 ^ a0.toNat)) = ji11 := fun hle_ => by have h_ := hji11z hle_; rw [Int.one_mul] at h_; exact h_
     have hji11y : (wrap64 (1 * 2 ^ min a0.toNat 64)) = ji11 := (i64_w _).symm.trans hji11_
     have hji11x : a0 ≤ 64 → (wrap64 (1 * 2 ^ a0.toNat)) = ji11 := fun h_ => (i64_w _).symm.trans (hji11z h_)
     replace H := Option.bind_eq_some_iff.mp H
     obtain ⟨t123, A120, H⟩ := H
     try dsimp only at H
     have A12 := Aside0.mk A120
     clear A120
     obtain ⟨ji13, hji13⟩ : ∃ j_ : Int, (mn (t123.length : Int) (ji11)) = j_ := ⟨_, rfl⟩
     replace H : (if 0 ≤ (ji13) then (if (ji13) ≤ (t123.length : Int) then ((some (t123.take ((ji13) : Int).toNat : List ByteArray)).bind fun y126 => ((impl_wordsOf.f kj2 a1 2).bind fun t129 => (if (wrap64 ((y126.length : Int) + (t129.length : Int))) < (ji11) then (some (0, 0, ([] : List ByteArray), ([] : List ByteArray), false)) else ((slices_Clone_string_string.f y126).bind fun t132 => ((slices_Clone_string_string.f y126).bind fun t135 => (if 0 ≤ (wrap64 ((ji11) - (y126.length : Int))) then (if (wrap64 ((ji11) - (y126.length : Int))) ≤ (t129.length : Int) then ((some (t129.take ((wrap64 ((ji11) - (y126.length : Int))) : Int).toNat : List ByteArray)).bind fun y139 => (impl_MakeBlockCode.l0 kj2 y139 (y139.length : Int) 0 a0 a1 t132 t135)) else (none)) else (none))))))) else (none)) else (none)) = some (r1, r2, r3, r4, r5) := by first | (rw [hji13] at H; exact H) | (simp only [hji13] at H ⊢; exact H)
     (try rw [hji13] at A12)
     have hji13_ : (if (ji11) < (t123.length : Int) then (ji11) else (t123.length : Int)) = ji13 := hji13
     by_cases c14 : 0 ≤ (ji13)
     ·rw [if_pos c14] at H
      have c14b0 := eq_true c14
      have c14b1 := decide_eq_true c14
      clear c14
      by_cases c15 : (ji13) ≤ (t123.length : Int)
      ·rw [if_pos c15] at H
       have c15b0 := eq_true c15
       have c15b1 := decide_eq_true c15
       clear c15
       obtain ⟨y126, hy126⟩ : ∃ y_ : List ByteArray, y_ = (t123.take ((ji13) : Int).toNat) := ⟨_, rfl⟩
       replace H : ((impl_wordsOf.f kj2 a1 2).bind fun t129 => (if (wrap64 ((y126.length : Int) + (t129.length : Int))) < (ji11) then (some (0, 0, ([] : List ByteArray), ([] : List ByteArray), false)) else ((slices_Clone_string_string.f y126).bind fun t132 => ((slices_Clone_string_string.f y126).bind fun t135 => (if 0 ≤ (wrap64 ((ji11) - (y126.length : Int))) then (if (wrap64 ((ji11) - (y126.length : Int))) ≤ (t129.length : Int) then ((some (t129.take ((wrap64 ((ji11) - (y126.length : Int))) : Int).toNat : List ByteArray)).bind fun y139 => (impl_MakeBlockCode.l0 kj2 y139 (y139.length : Int) 0 a0 a1 t132 t135)) else (none)) else (none)))))) = some (r1, r2, r3, r4, r5) := by first | (rw [hy126]; with_reducible exact H) | (have H2_ := (Option.bind_some _ _).symm.trans H; rw [hy126]; with_reducible exact H2_) | (have H2_ := (Option.bind_some _ _).symm.trans H; with_reducible exact H2_) | with_reducible exact H | (rw [hy126]; exact H) | exact H
       have Ny126 := Aside0.mk hy126
       clear hy126
       replace H := Option.bind_eq_some_iff.mp H
       obtain ⟨t129, A160, H⟩ := H
       try dsimp only at H
       have A16 := Aside0.mk A160
       clear A160
       by_cases c17 : (wrap64 ((y126.length : Int) + (t129.length : Int))) < (ji11)
       ·rw [if_pos c17] at H
        have c17b0 := decide_eq_true c17
        clear c17
        simp only [Option.some.injEq, Prod.mk.injEq] at H
        obtain ⟨rfl, rfl, rfl, rfl, rfl⟩ := H
        go_wp2_with (first | ((with_reducible refine gate_callee (f := 23) rfl ?_); refine goesL_ (some 24) rfl rfl Tryz.func23 Qi0_ rfl #[.int .i64 a1, .int .i64 0] rfl Qb0_ ?_; (with_reducible refine (impl_wordsOf.calls kj2 a1 0 t123 _ A12.out).mono ?_); rintro e w18 ⟨v124, rfl, ho0, hb⟩; refine ⟨_, rfl, ?_⟩; have n0_ := Aside0.mk (Kd.R_lower ho0 (below_size (Qg_ GE120.out))); have n1_ := Aside0.mk (blk_below (g := gb120) (o := .cells #[.int .i64 0, .int .i64 0, .slice none 0 0, .slice none 0 0] 25 (0, 0)) (Qk_ BK120.out) hb); have n2_ := Aside0.mk (below_step (Qg_ GE120.out) hb); clear BK120; clear HB; have HO125 := n0_; have BK120 := n1_; have HB := n2_; clear n0_ n1_ n2_; (try clear hb); (try clear hb2); (try clear hk); (try clear hi); (try clear ho0); obtain ⟨Ao19, co19, eo19⟩ := Kd.R_slice HO125.out; subst eo19; have q20 : ((ji13) : Int) ≤ ((t123.length : Int) : Int) := of_decide_eq_true Qf0_; obtain ⟨i020, hi020, _, hsz20, _⟩ := info_parts info9; have hcut20 := cut_to (P := Tryz.prog) 23 9 .i64 Tryz.underlying23 hi020 Ao19 t123.length co19 (ji13) (of_decide_eq_true Qf0_) q20 (Kd.R_reads' HO125.out).2.1; have hr20 := Kd.R_take (m := ((ji13) : Int).toNat) HO125.out (by omega); have hy20 : y126.length = ((ji13) : Int).toNat := (by rw [Ny126.out, List.length_take]; omega); rw [← Ny126.out] at hr20; rw [← hy20] at hr20 hcut20; clear hy20 hi020 hsz20 HO125; have HO128 := Aside0.mk hr20; clear hr20; replace q20 := eq_true q20) | ((with_reducible refine gate_callee (f := 23) rfl ?_); refine goesL_ (some 32) rfl rfl Tryz.func23 Qi0_ rfl #[.int .i64 a1, .int .i64 2] rfl Qb0_ ?_; (with_reducible refine (impl_wordsOf.calls kj2 a1 2 t129 _ A16.out).mono ?_); rintro e w21 ⟨v130, rfl, ho0, hb⟩; refine ⟨_, rfl, ?_⟩; have n0_ := Aside0.mk (Kd.R_elder' (Qr_ HO128.out) (Kd.R_base ho0) hb); have n1_ := Aside0.mk (Kd.R_lower (Kd.R_new' ho0 (Kd.R_lt (Qr_ HO128.out))) (below_size (Qg_ GE120.out))); have n2_ := Aside0.mk (blk_below (g := gb120) (o := .cells #[.int .i64 0, .int .i64 0, .slice none 0 0, .slice none 0 0] 25 (0, 0)) (Qk_ BK120.out) hb); have n3_ := Aside0.mk (below_step (Qg_ GE120.out) hb); clear HO128; clear BK120; clear HB; have HO128 := n0_; have HO131 := n1_; have BK120 := n2_; have HB := n3_; clear n0_ n1_ n2_ n3_; (try clear hb); (try clear hb2); (try clear hk); (try clear hi); (try clear ho0); obtain ⟨Ao22, co22, eo22⟩ := Kd.R_slice HO131.out; subst eo22; have hcz23_0 : w21.cell? ⟨gb120, 0, none⟩ = some (.int .i64 0) := (blk_cell BK120.out 0).trans rfl; have hcz23_1 : w21.cell? ⟨gb120, 1, none⟩ = some (.int .i64 0) := (blk_cell BK120.out 1).trans rfl; have hcz23_2 : w21.cell? ⟨gb120, 2, none⟩ = some (.slice none 0 0) := (blk_cell BK120.out 2).trans rfl; have hcz23_3 : w21.cell? ⟨gb120, 3, none⟩ = some (.slice none 0 0) := (blk_cell BK120.out 3).trans rfl; have hfz23_0 := blk_frozen BK120.out 0; have hfz23_1 := blk_frozen BK120.out 1; have hfz23_2 := blk_frozen BK120.out 2; have hfz23_3 := blk_frozen BK120.out 3))
        refine bodyPost_ret (results_ct rfl _ _ gb120 25 #[.int .i64 0, .int .i64 0, .slice none 0 0, .slice none 0 0] (0, 0) _ rfl Qq0_ Tryz.underlying25 rfl Qi0_) rfl ?_
        exact ⟨_, _, by first | rfl | (simp [errW_none, errW_some] <;> rfl) | (simp only [← hji11, ← hji13]; first | rfl | (simp [errW_none, errW_some] <;> rfl)) | (simp [*, errW_none, errW_some] <;> rfl), Qy0_, Qy0_, Qg_ GE120.out⟩
       ·rw [if_neg c17] at H
        have c17b0 := decide_eq_false c17
        clear c17
        replace H := Option.bind_eq_some_iff.mp H
        obtain ⟨t132, A240, H⟩ := H
        try dsimp only at H
        have A24 := Aside0.mk A240
        clear A240
        replace H := Option.bind_eq_some_iff.mp H
        obtain ⟨t135, A250, H⟩ := H
        try dsimp only at H
        have A25 := Aside0.mk A250
        clear A250
        obtain ⟨ji26, hji26⟩ : ∃ j_ : Int, (wrap64 ((ji11) - (y126.length : Int))) = j_ := ⟨_, rfl⟩
        replace H : (if 0 ≤ (ji26) then (if (ji26) ≤ (t129.length : Int) then ((some (t129.take ((ji26) : Int).toNat : List ByteArray)).bind fun y139 => (impl_MakeBlockCode.l0 kj2 y139 (y139.length : Int) 0 a0 a1 t132 t135)) else (none)) else (none)) = some (r1, r2, r3, r4, r5) := by first | (rw [hji26] at H; exact H) | (simp only [hji26] at H ⊢; exact H)
        (try rw [hji26] at A12)
        (try rw [hji26] at A16)
        (try rw [hji26] at A24)
        (try rw [hji26] at A25)
        have hji26w : (IntKind.i64.wrap ((ji11) - (y126.length : Int))) = ji26 := (i64_w _).trans hji26
        (try rw [hji26])
        by_cases c27 : 0 ≤ (ji26)
        ·rw [if_pos c27] at H
         have c27b0 := eq_true c27
         have c27b1 := decide_eq_true c27
         clear c27
         by_cases c28 : (ji26) ≤ (t129.length : Int)
         ·rw [if_pos c28] at H
          have c28b0 := eq_true c28
          have c28b1 := decide_eq_true c28
          clear c28
          obtain ⟨y139, hy139⟩ : ∃ y_ : List ByteArray, y_ = (t129.take ((ji26) : Int).toNat) := ⟨_, rfl⟩
          replace H : (impl_MakeBlockCode.l0 kj2 y139 (y139.length : Int) 0 a0 a1 t132 t135) = some (r1, r2, r3, r4, r5) := by first | (rw [hy139]; with_reducible exact H) | (have H2_ := (Option.bind_some _ _).symm.trans H; rw [hy139]; with_reducible exact H2_) | (have H2_ := (Option.bind_some _ _).symm.trans H; with_reducible exact H2_) | with_reducible exact H | (rw [hy139]; exact H) | exact H
          have Ny139 := Aside0.mk hy139
          clear hy139
          have H' := Aside0.mk H
          clear H
          go_wp2_with (first | ((with_reducible refine gate_callee (f := 23) rfl ?_); refine goesL_ (some 24) rfl rfl Tryz.func23 Qi0_ rfl #[.int .i64 a1, .int .i64 0] rfl Qb0_ ?_; (with_reducible refine (impl_wordsOf.calls kj2 a1 0 t123 _ A12.out).mono ?_); rintro e w29 ⟨v124, rfl, ho0, hb⟩; refine ⟨_, rfl, ?_⟩; have n0_ := Aside0.mk (Kd.R_lower ho0 (below_size (Qg_ GE120.out))); have n1_ := Aside0.mk (blk_below (g := gb120) (o := .cells #[.int .i64 0, .int .i64 0, .slice none 0 0, .slice none 0 0] 25 (0, 0)) (Qk_ BK120.out) hb); have n2_ := Aside0.mk (below_step (Qg_ GE120.out) hb); clear BK120; clear HB; have HO125 := n0_; have BK120 := n1_; have HB := n2_; clear n0_ n1_ n2_; (try clear hb); (try clear hb2); (try clear hk); (try clear hi); (try clear ho0); obtain ⟨Ao30, co30, eo30⟩ := Kd.R_slice HO125.out; subst eo30; have q31 : ((ji13) : Int) ≤ ((t123.length : Int) : Int) := of_decide_eq_true Qf0_; obtain ⟨i031, hi031, _, hsz31, _⟩ := info_parts info9; have hcut31 := cut_to (P := Tryz.prog) 23 9 .i64 Tryz.underlying23 hi031 Ao30 t123.length co30 (ji13) (of_decide_eq_true Qf0_) q31 (Kd.R_reads' HO125.out).2.1; have hr31 := Kd.R_take (m := ((ji13) : Int).toNat) HO125.out (by omega); have hy31 : y126.length = ((ji13) : Int).toNat := (by rw [Ny126.out, List.length_take]; omega); rw [← Ny126.out] at hr31; rw [← hy31] at hr31 hcut31; clear hy31 hi031 hsz31 HO125; have HO128 := Aside0.mk hr31; clear hr31; replace q31 := eq_true q31) | ((with_reducible refine gate_callee (f := 23) rfl ?_); refine goesL_ (some 32) rfl rfl Tryz.func23 Qi0_ rfl #[.int .i64 a1, .int .i64 2] rfl Qb0_ ?_; (with_reducible refine (impl_wordsOf.calls kj2 a1 2 t129 _ A16.out).mono ?_); rintro e w32 ⟨v130, rfl, ho0, hb⟩; refine ⟨_, rfl, ?_⟩; have n0_ := Aside0.mk (Kd.R_elder' (Qr_ HO128.out) (Kd.R_base ho0) hb); have n1_ := Aside0.mk (Kd.R_lower (Kd.R_new' ho0 (Kd.R_lt (Qr_ HO128.out))) (below_size (Qg_ GE120.out))); have n2_ := Aside0.mk (blk_below (g := gb120) (o := .cells #[.int .i64 0, .int .i64 0, .slice none 0 0, .slice none 0 0] 25 (0, 0)) (Qk_ BK120.out) hb); have n3_ := Aside0.mk (below_step (Qg_ GE120.out) hb); clear HO128; clear BK120; clear HB; have HO128 := n0_; have HO131 := n1_; have BK120 := n2_; have HB := n3_; clear n0_ n1_ n2_ n3_; (try clear hb); (try clear hb2); (try clear hk); (try clear hi); (try clear ho0); obtain ⟨Ao33, co33, eo33⟩ := Kd.R_slice HO131.out; subst eo33) | ((with_reducible refine gate_callee (f := 24) rfl ?_); refine goesL_ (some 44) rfl rfl Tryz.func24 Qi0_ rfl #[.slice Ao30 y126.length co30] rfl Qb0_ ?_; (with_reducible refine (slices_Clone_string_string.calls _ _ y126 t132 _ ?side1 ?side2 A24.out).mono ?_); (case side1 => exact Qc_ (Kd.R_reads' HO128.out).2.2); (case side2 => exact (Kd.R_reads' HO128.out).2.1); rintro e w34 ⟨v133, rfl, ho0, hb⟩; refine ⟨_, rfl, ?_⟩; have n0_ := Aside0.mk (Kd.R_elder' (Qr_ HO128.out) (Kd.R_base ho0) hb); have n1_ := Aside0.mk (Kd.R_elder' (Qr_ HO131.out) (Kd.R_base ho0) hb); have n2_ := Aside0.mk (Kd.R_lower (Kd.R_new' (Kd.R_new' ho0 (Kd.R_lt (Qr_ HO128.out))) (Kd.R_lt (Qr_ HO131.out))) (below_size (Qg_ GE120.out))); have n3_ := Aside0.mk (blk_below (g := gb120) (o := .cells #[.int .i64 0, .int .i64 0, .slice none 0 0, .slice none 0 0] 25 (0, 0)) (Qk_ BK120.out) hb); have n4_ := Aside0.mk (below_step (Qg_ GE120.out) hb); clear HO128; clear HO131; clear BK120; clear HB; have HO128 := n0_; have HO131 := n1_; have HO134 := n2_; have BK120 := n3_; have HB := n4_; clear n0_ n1_ n2_ n3_ n4_; (try clear hb); (try clear hb2); (try clear hk); (try clear hi); (try clear ho0)) | ((with_reducible refine gate_callee (f := 24) rfl ?_); refine goesL_ (some 46) rfl rfl Tryz.func24 Qi0_ rfl #[.slice Ao30 y126.length co30] rfl Qb0_ ?_; (with_reducible refine (slices_Clone_string_string.calls _ _ y126 t135 _ ?side1 ?side2 A25.out).mono ?_); (case side1 => exact Qc_ (Kd.R_reads' HO128.out).2.2); (case side2 => exact (Kd.R_reads' HO128.out).2.1); rintro e w35 ⟨v136, rfl, ho0, hb⟩; refine ⟨_, rfl, ?_⟩; have n0_ := Aside0.mk (Kd.R_elder' (Qr_ HO128.out) (Kd.R_base ho0) hb); have n1_ := Aside0.mk (Kd.R_elder' (Qr_ HO131.out) (Kd.R_base ho0) hb); have n2_ := Aside0.mk (Kd.R_elder' (Qr_ HO134.out) (Kd.R_base ho0) hb); have n3_ := Aside0.mk (Kd.R_lower (Kd.R_new' (Kd.R_new' (Kd.R_new' ho0 (Kd.R_lt (Qr_ HO128.out))) (Kd.R_lt (Qr_ HO131.out))) (Kd.R_lt (Qr_ HO134.out))) (below_size (Qg_ GE120.out))); have n4_ := Aside0.mk (blk_below (g := gb120) (o := .cells #[.int .i64 0, .int .i64 0, .slice none 0 0, .slice none 0 0] 25 (0, 0)) (Qk_ BK120.out) hb); have n5_ := Aside0.mk (below_step (Qg_ GE120.out) hb); clear HO128; clear HO131; clear HO134; clear BK120; clear HB; have HO128 := n0_; have HO131 := n1_; have HO134 := n2_; have HO137 := n3_; have BK120 := n4_; have HB := n5_; clear n0_ n1_ n2_ n3_ n4_ n5_; (try clear hb); (try clear hb2); (try clear hk); (try clear hi); (try clear ho0); obtain ⟨Ao36, co36, eo36⟩ := Kd.R_slice HO137.out; subst eo36; obtain ⟨Ao37, co37, eo37⟩ := Kd.R_slice HO134.out; subst eo37) | ((with_reducible refine gate_dst (N := 9) rfl ?_); refine box_event ?hg (N := 9) ?hd (cs := #[.int .i64 0, .int .i64 0, .slice none 0 0, .slice none 0 0]) (t := 25) ?hr ?_; (case hd => rfl); (case hg => rfl); (case hr => exact Qh0_); intro gb138 hg w38 hbox hb; have n0_ := Aside0.mk (Kd.R_below (Qr_ HO128.out) hb); have n1_ := Aside0.mk (Kd.R_below (Qr_ HO131.out) hb); have n2_ := Aside0.mk (Kd.R_below (Qr_ HO134.out) hb); have n3_ := Aside0.mk (Kd.R_below (Qr_ HO137.out) hb); have n4_ := Aside0.mk (blk_below (g := gb120) (o := .cells #[.int .i64 0, .int .i64 0, .slice none 0 0, .slice none 0 0] 25 (0, 0)) (Qk_ BK120.out) hb); have n5_ := Aside0.mk (below_step (Qg_ GE120.out) hb); have n6_ := Aside0.mk (hbox); have n7_ := Aside0.mk ((by rw [hg]; exact (below_size (Qg_ GE120.out)) : w.heap.size ≤ gb138)); have n8_ := Aside0.mk ((by rw [hg]; exact (below_size (Qg_ GE120.out)) : w.heap.size ≤ gb138)); have n9_ := Aside0.mk ((by rw [hg]; exact Nat.ne_of_lt (blk_lt (g := gb120) (o := .cells #[.int .i64 0, .int .i64 0, .slice none 0 0, .slice none 0 0] 25 (0, 0)) (Qk_ BK120.out)) : gb120 ≠ gb138)); have n10_ := Aside0.mk ((by rw [hg]; exact Nat.ne_of_gt (blk_lt (g := gb120) (o := .cells #[.int .i64 0, .int .i64 0, .slice none 0 0, .slice none 0 0] 25 (0, 0)) (Qk_ BK120.out)) : gb138 ≠ gb120)); clear HO128; clear HO131; clear HO134; clear HO137; clear BK120; clear HB; have HO128 := n0_; have HO131 := n1_; have HO134 := n2_; have HO137 := n3_; have BK120 := n4_; have HB := n5_; have BK138 := n6_; have GW138 := n7_; have GE138 := n8_; have NB120_138 := n9_; have NB138_120 := n10_; clear n0_ n1_ n2_ n3_ n4_ n5_ n6_ n7_ n8_ n9_ n10_; clear hb hbox hg; have hnb39 := NB138_120.out; have hnc39 := NB120_138.out; have hcz40_0 : w38.cell? ⟨gb138, 0, none⟩ = some (.int .i64 0) := (blk_cell BK138.out 0).trans rfl; have hcz40_1 : w38.cell? ⟨gb138, 1, none⟩ = some (.int .i64 0) := (blk_cell BK138.out 1).trans rfl; have hcz40_2 : w38.cell? ⟨gb138, 2, none⟩ = some (.slice none 0 0) := (blk_cell BK138.out 2).trans rfl; have hcz40_3 : w38.cell? ⟨gb138, 3, none⟩ = some (.slice none 0 0) := (blk_cell BK138.out 3).trans rfl; have hfz40_0 := blk_frozen BK138.out 0; have hfz40_1 := blk_frozen BK138.out 1; have hfz40_2 := blk_frozen BK138.out 2; have hfz40_3 := blk_frozen BK138.out 3) | ((with_reducible refine gate_store (t := 25) (p := 9) rfl ?_); refine store_event (t := 25) (p := 9) (v := ?vo_w41) (w1 := ((((w38.setCell ⟨gb138, 0, none⟩ (.int .i64 a0)).setCell ⟨gb138, 1, none⟩ (.int .i64 a1)).setCell ⟨gb138, 2, none⟩ (.slice Ao37 t132.length co37)).setCell ⟨gb138, 3, none⟩ (.slice Ao36 t135.length co36))) ?hg ?ho ?hn ?hr ?_; (case ho => rfl); (case hg => rfl); (case hn => rfl); (case hr => exact Qh0_); intro w41 hw; have n0_ : Aside0 (Kd.R Kd.string 9 w41 w.heap.size (fun k_ => some k_ ≠ (.slice Ao33 t129.length co33 : Value).ownBlock ∧ some k_ ≠ (.slice Ao37 t132.length co37 : Value).ownBlock ∧ some k_ ≠ (.slice Ao36 t135.length co36 : Value).ownBlock) (.slice Ao30 y126.length co30) y126) := ⟨(by rw [hw]; exact (by (with_reducible repeat (first | apply Kd.R_alloc | apply Kd.R_drewN | apply Kd.R_drew)); exact Kd.R_mono (Kd.R_far (p := ⟨gb138, 3, none⟩) (Kd.R_far (p := ⟨gb138, 2, none⟩) (Kd.R_far (p := ⟨gb138, 1, none⟩) (Kd.R_far (p := ⟨gb138, 0, none⟩) (Kd.R_types HO128.out BK138.out (by decide)) (fun _ hk => hk.2) (.int .i64 a0)) (fun _ hk => hk.2) (.int .i64 a1)) (fun _ hk => hk.2) (.slice Ao37 t132.length co37)) (fun _ hk => hk.2) (.slice Ao36 t135.length co36)) (fun _ hk => ⟨hk.1.1.1.2, ⟨hk.1.1.2, hk.1.2⟩⟩)))⟩; have n1_ : Aside0 (Kd.R Kd.string 9 w41 w.heap.size (fun k_ => some k_ ≠ (.slice Ao30 y126.length co30 : Value).ownBlock ∧ some k_ ≠ (.slice Ao37 t132.length co37 : Value).ownBlock ∧ some k_ ≠ (.slice Ao36 t135.length co36 : Value).ownBlock) (.slice Ao33 t129.length co33) t129) := ⟨(by rw [hw]; exact (by (with_reducible repeat (first | apply Kd.R_alloc | apply Kd.R_drewN | apply Kd.R_drew)); exact Kd.R_mono (Kd.R_far (p := ⟨gb138, 3, none⟩) (Kd.R_far (p := ⟨gb138, 2, none⟩) (Kd.R_far (p := ⟨gb138, 1, none⟩) (Kd.R_far (p := ⟨gb138, 0, none⟩) (Kd.R_types HO131.out BK138.out (by decide)) (fun _ hk => hk.2) (.int .i64 a0)) (fun _ hk => hk.2) (.int .i64 a1)) (fun _ hk => hk.2) (.slice Ao37 t132.length co37)) (fun _ hk => hk.2) (.slice Ao36 t135.length co36)) (fun _ hk => ⟨hk.1.1.1.2, ⟨hk.1.1.2, hk.1.2⟩⟩)))⟩; have n2_ : Aside0 (Kd.R Kd.string 9 w41 w.heap.size (fun k_ => some k_ ≠ (.slice Ao30 y126.length co30 : Value).ownBlock ∧ some k_ ≠ (.slice Ao33 t129.length co33 : Value).ownBlock ∧ some k_ ≠ (.slice Ao36 t135.length co36 : Value).ownBlock) (.slice Ao37 t132.length co37) t132) := ⟨(by rw [hw]; exact (by (with_reducible repeat (first | apply Kd.R_alloc | apply Kd.R_drewN | apply Kd.R_drew)); exact Kd.R_mono (Kd.R_far (p := ⟨gb138, 3, none⟩) (Kd.R_far (p := ⟨gb138, 2, none⟩) (Kd.R_far (p := ⟨gb138, 1, none⟩) (Kd.R_far (p := ⟨gb138, 0, none⟩) (Kd.R_types HO134.out BK138.out (by decide)) (fun _ hk => hk.2) (.int .i64 a0)) (fun _ hk => hk.2) (.int .i64 a1)) (fun _ hk => hk.2) (.slice Ao37 t132.length co37)) (fun _ hk => hk.2) (.slice Ao36 t135.length co36)) (fun _ hk => ⟨hk.1.1.1.2, ⟨hk.1.1.2, hk.1.2⟩⟩)))⟩; have n3_ : Aside0 (Kd.R Kd.string 9 w41 w.heap.size (fun k_ => some k_ ≠ (.slice Ao30 y126.length co30 : Value).ownBlock ∧ some k_ ≠ (.slice Ao33 t129.length co33 : Value).ownBlock ∧ some k_ ≠ (.slice Ao37 t132.length co37 : Value).ownBlock) (.slice Ao36 t135.length co36) t135) := ⟨(by rw [hw]; exact (by (with_reducible repeat (first | apply Kd.R_alloc | apply Kd.R_drewN | apply Kd.R_drew)); exact Kd.R_mono (Kd.R_far (p := ⟨gb138, 3, none⟩) (Kd.R_far (p := ⟨gb138, 2, none⟩) (Kd.R_far (p := ⟨gb138, 1, none⟩) (Kd.R_far (p := ⟨gb138, 0, none⟩) (Kd.R_types HO137.out BK138.out (by decide)) (fun _ hk => hk.2) (.int .i64 a0)) (fun _ hk => hk.2) (.int .i64 a1)) (fun _ hk => hk.2) (.slice Ao37 t132.length co37)) (fun _ hk => hk.2) (.slice Ao36 t135.length co36)) (fun _ hk => ⟨hk.1.1.1.2, ⟨hk.1.1.2, hk.1.2⟩⟩)))⟩; have n4_ : Aside0 (w41.heap[gb120]? = some (.cells #[.int .i64 0, .int .i64 0, .slice none 0 0, .slice none 0 0] 25 (0, 0))) := ⟨(by rw [hw]; exact (by (with_reducible repeat (first | refine blk_drewN ?_ _ | refine blk_drew ?_ | refine blk_alloc ?_ _)); refine blk_far ?_ NB120_138.out _; (with_reducible repeat (first | refine blk_drewN ?_ _ | refine blk_drew ?_ | refine blk_alloc ?_ _)); refine blk_far ?_ NB120_138.out _; (with_reducible repeat (first | refine blk_drewN ?_ _ | refine blk_drew ?_ | refine blk_alloc ?_ _)); refine blk_far ?_ NB120_138.out _; (with_reducible repeat (first | refine blk_drewN ?_ _ | refine blk_drew ?_ | refine blk_alloc ?_ _)); refine blk_far ?_ NB120_138.out _; (with_reducible repeat (first | refine blk_drewN ?_ _ | refine blk_drew ?_ | refine blk_alloc ?_ _)); exact BK120.out))⟩; have n5_ : Aside0 (w41.heap[gb138]? = some (.cells #[.int .i64 a0, .int .i64 a1, .slice Ao37 t132.length co37, .slice Ao36 t135.length co36] 25 (0, 0))) := ⟨(by rw [hw]; exact (by (with_reducible repeat (first | refine blk_drewN ?_ _ | refine blk_drew ?_ | refine blk_alloc ?_ _)); refine blk_put (cs := #[.int .i64 a0, .int .i64 a1, .slice Ao37 t132.length co37, .slice none 0 0]) ?_ 3 _ rfl; (with_reducible repeat (first | refine blk_drewN ?_ _ | refine blk_drew ?_ | refine blk_alloc ?_ _)); refine blk_put (cs := #[.int .i64 a0, .int .i64 a1, .slice none 0 0, .slice none 0 0]) ?_ 2 _ rfl; (with_reducible repeat (first | refine blk_drewN ?_ _ | refine blk_drew ?_ | refine blk_alloc ?_ _)); refine blk_put (cs := #[.int .i64 a0, .int .i64 0, .slice none 0 0, .slice none 0 0]) ?_ 1 _ rfl; (with_reducible repeat (first | refine blk_drewN ?_ _ | refine blk_drew ?_ | refine blk_alloc ?_ _)); refine blk_put (cs := #[.int .i64 0, .int .i64 0, .slice none 0 0, .slice none 0 0]) ?_ 0 _ rfl; (with_reducible repeat (first | refine blk_drewN ?_ _ | refine blk_drew ?_ | refine blk_alloc ?_ _)); exact BK138.out))⟩; have n6_ : Aside0 (Below w.heap.size w w41) := ⟨(by rw [hw]; exact Ql0_)⟩; clear hw; clear HO128; clear HO131; clear HO134; clear HO137; clear BK120; clear BK138; clear HB; have HO128 := n0_; have HO131 := n1_; have HO134 := n2_; have HO137 := n3_; have BK120 := n4_; have BK138 := n5_; have HB := n6_; clear n0_ n1_ n2_ n3_ n4_ n5_ n6_; have q42 : ((ji26) : Int) ≤ ((t129.length : Int) : Int) := of_decide_eq_true Qf0_; obtain ⟨i042, hi042, _, hsz42, _⟩ := info_parts info9; have hroom42 : t129.length ≤ co33 := (Kd.R_reads' HO131.out).2.1; have hC42 : Kd.C Kd.string _ Ao33 t129.length t129 := (Kd.R_reads' HO131.out).2.2; have hcut42 := cut_to (P := Tryz.prog) 23 9 .i64 Tryz.underlying23 hi042 Ao33 t129.length co33 (ji26) (of_decide_eq_true Qf0_) q42 hroom42; have hr42 := Kd.C_take (m := ((ji26) : Int).toNat) hC42 (by omega); have hy42 : y139.length = ((ji26) : Int).toNat := (by rw [Ny139.out, List.length_take]; omega); rw [← Ny139.out] at hr42; rw [← hy42] at hcut42; have HR142 := Aside0.mk hr42; have HC142 := Aside0.mk (show y139.length ≤ co33 from by omega); clear hr42 hC42 hroom42 hi042 hsz42; have KY42 := Aside0.mk hy42; clear hy42; have KL42 := Aside0.mk (show ((ji26) : Int).toNat ≤ t129.length from by omega); replace q42 := eq_true q42))
          go_loopg [55] kj2 (fun kq v55 w' => ∃ (x55_2 : Int) (x139002_2 : List ByteArray) (x139003_2 : List ByteArray) (u139002 : Value) (u139003 : Value), v55 = .int .i64 x55_2 ∧ Aside0 (impl_MakeBlockCode.l0 kq y139 (y139.length : Int) x55_2 a0 a1 x139002_2 x139003_2 = some (r1, r2, r3, r4, r5)) ∧ Aside0 (kq ≤ kj2) ∧ Aside0 (Kd.R Kd.string 9 w' w.heap.size (fun k_ => some k_ ≠ (u139003 : Value).ownBlock) u139002 x139002_2) ∧ Aside0 (Kd.R Kd.string 9 w' w.heap.size (fun k_ => some k_ ≠ (u139002 : Value).ownBlock) u139003 x139003_2) ∧ Aside0 (w'.heap[gb120]? = some (.cells #[.int .i64 0, .int .i64 0, (.slice none 0 0), (.slice none 0 0)] 25 (0, 0))) ∧ Aside0 (w'.heap[gb138]? = some (.cells #[.int .i64 a0, .int .i64 a1, u139002, u139003] 25 (0, 0))) ∧ Aside0 (Below w.heap.size w w') ∧ Aside0 (Kd.R Kd.string 9 w' w.heap.size (fun k_ => some k_ ≠ (u139002 : Value).ownBlock ∧ some k_ ≠ (u139003 : Value).ownBlock) (.slice Ao33 t129.length co33) t129))
          case atStart => exact ⟨(0), (t132), (t135), (.slice Ao37 t132.length co37), (.slice Ao36 t135.length co36), Qc0_, H', ⟨Nat.le_refl _⟩, ⟨by (with_reducible repeat (first | apply Kd.R_alloc | apply Kd.R_drewN | apply Kd.R_drew)); exact Kd.R_mono HO134.out (fun _ hk => hk.2.2)⟩, ⟨by (with_reducible repeat (first | apply Kd.R_alloc | apply Kd.R_drewN | apply Kd.R_drew)); exact Kd.R_mono HO137.out (fun _ hk => hk.2.2)⟩, ⟨Qk_ BK120.out⟩, ⟨Qk_ BK138.out⟩, ⟨Ql0_⟩, ⟨by (with_reducible repeat (first | apply Kd.R_alloc | apply Kd.R_drewN | apply Kd.R_drew)); exact Kd.R_mono HO131.out (fun _ hk => ⟨hk.2.1, hk.2.2⟩)⟩⟩
          case round =>
           clear H'
           try clear c1
           try clear c2
           try clear p2
           try clear q2
           try clear c3
           try clear q3
           try clear c4
           try clear q4
           try clear c6
           try clear p6
           try clear c8
           try clear c10
           try clear c10b0
           try clear c10b1
           try clear c14
           try clear c14b0
           try clear c14b1
           try clear c15
           try clear c15b0
           try clear c15b1
           try clear c17
           try clear c17b0
           try clear q20
           try clear c21
           try clear c23
           try clear c24
           try clear c27
           try clear c27b0
           try clear c27b1
           try clear c28
           try clear c28b0
           try clear c28b1
           try clear q31
           try clear c39
           try clear q42
           try clear hcz23_0
           try clear hcz23_1
           try clear hcz23_2
           try clear hcz23_3
           try clear hcz40_0
           try clear hcz40_1
           try clear hcz40_2
           try clear hcz40_3
           try clear hcz9_0
           try clear hcz9_1
           try clear hcz9_2
           try clear hcz9_3
           try clear hfz23_0
           try clear hfz23_1
           try clear hfz23_2
           try clear hfz23_3
           try clear hfz40_0
           try clear hfz40_1
           try clear hfz40_2
           try clear hfz40_3
           try clear hfz9_0
           try clear hfz9_1
           try clear hfz9_2
           try clear hfz9_3
           try clear p2
           try clear q20
           try clear q31
           try clear q42
           obtain ⟨x55_2, x139002_2, x139003_2, u139002, u139003, rfl, HA, HK2, HO_139002, HO_139003, BK120, BK138, HB, HOR⟩ := hrel
           cases gk with
           | zero => exact absurd HA.out (by simp [impl_MakeBlockCode.l0])
           | succ k2 =>
            have H := HA.out
            clear HA
            simp only [impl_MakeBlockCode.l0] at H
            by_cases c43 : x55_2 < (y139.length : Int)
            ·rw [if_pos c43] at H
             have c43b0 := decide_eq_true c43
             clear c43
             by_cases c44 : 0 ≤ x55_2
             ·rw [if_pos c44] at H
              have c44b0 := decide_eq_true c44
              clear c44
              by_cases c45 : x55_2 < (y139.length : Int)
              ·rw [if_pos c45] at H
               have c45b0 := decide_eq_true c45
               clear c45
               by_cases c46 : x139002_2.length < 8796093022208
               ·rw [if_pos c46] at H
                have LMc46 := Aside0.mk c46
                clear c46
                obtain ⟨y144, hy144⟩ : ∃ y_ : List ByteArray, y_ = (x139002_2 ++ [rdOf ByteArray.empty y139 x55_2]) := ⟨_, rfl⟩
                replace H : ((impl_opposite.f k2 (rdOf ByteArray.empty y139 x55_2)).bind fun t147 => (if x139003_2.length < 8796093022208 then (impl_MakeBlockCode.l0 k2 y139 (y139.length : Int) (wrap64 (x55_2 + 1)) a0 a1 y144 (x139003_2 ++ [t147])) else (none))) = some (r1, r2, r3, r4, r5) := by first | (rw [hy144]; with_reducible exact H) | (have H2_ := (Option.bind_some _ _).symm.trans H; rw [hy144]; with_reducible exact H2_) | (have H2_ := (Option.bind_some _ _).symm.trans H; with_reducible exact H2_) | with_reducible exact H | (rw [hy144]; exact H) | exact H
                have Ny144 := Aside0.mk hy144
                clear hy144
                replace H := Option.bind_eq_some_iff.mp H
                obtain ⟨t147, A470, H⟩ := H
                try dsimp only at H
                have A47 := Aside0.mk A470
                clear A470
                by_cases c48 : x139003_2.length < 8796093022208
                ·rw [if_pos c48] at H
                 have LMc48 := Aside0.mk c48
                 clear c48
                 obtain ⟨y148, hy148⟩ : ∃ y_ : List ByteArray, y_ = (x139003_2 ++ [t147]) := ⟨_, rfl⟩
                 replace H : (impl_MakeBlockCode.l0 k2 y139 (y139.length : Int) (wrap64 (x55_2 + 1)) a0 a1 y144 y148) = some (r1, r2, r3, r4, r5) := by first | (rw [hy148]; with_reducible exact H) | (have H2_ := (Option.bind_some _ _).symm.trans H; rw [hy148]; with_reducible exact H2_) | (have H2_ := (Option.bind_some _ _).symm.trans H; with_reducible exact H2_) | with_reducible exact H | (rw [hy148]; exact H) | exact H
                 have Ny148 := Aside0.mk hy148
                 clear hy148
                 have H' := Aside0.mk H
                 clear H
                 have p143 : 0 ≤ (x55_2 : Int) := of_decide_eq_true Qf0_
                 have q143 : x55_2 < (y139.length : Int) := of_decide_eq_true Qf0_
                 have hrx_ := Kd.C_take (m := ((ji26) : Int).toNat) (Kd.R_reads' HOR.out).2.2 KL42.out
                 rw [← Ny139.out] at hrx_
                 obtain ⟨ad143, e143, hx143_0⟩ := Kd.at_string hrx_ x55_2 p143 q143
                 cases e143
                 replace p143 := eq_true p143
                 replace q143 := eq_true q143
                 have hnb49 := NB138_120.out
                 have hnc49 := NB120_138.out
                 have hcz50_0 : wr.cell? ⟨gb138, 0, none⟩ = some (.int .i64 a0) := (blk_cell BK138.out 0).trans rfl
                 have hcz50_1 : wr.cell? ⟨gb138, 1, none⟩ = some (.int .i64 a1) := (blk_cell BK138.out 1).trans rfl
                 have hcz50_2 : wr.cell? ⟨gb138, 2, none⟩ = some (u139002) := (blk_cell BK138.out 2).trans rfl
                 have hcz50_3 : wr.cell? ⟨gb138, 3, none⟩ = some (u139003) := (blk_cell BK138.out 3).trans rfl
                 have hfz50_0 := blk_frozen BK138.out 0
                 have hfz50_1 := blk_frozen BK138.out 1
                 have hfz50_2 := blk_frozen BK138.out 2
                 have hfz50_3 := blk_frozen BK138.out 3
                 try go_wp2_with (first | ((with_reducible refine gate_builtin (b := .append) (xs := #[.tmp 60, .tmp 62]) rfl ?_); at_builtin; refine Kd.R_append Kd.string (w0 := w) w.heap.size rfl (.tmp 60) (.tmp 62) 23 9 (.string ⟨#[]⟩) 16 rfl Tryz.underlying23 info9 rfl (by decide) (by omega) u139002 x139002_2 (rdOf ByteArray.empty y139 x55_2) [.string (rdOf ByteArray.empty y139 x55_2)] (fun k_ => some k_ ≠ (u139003 : Value).ownBlock) (fun _ => False) rfl rfl ?aP (fun _ hk => hk.elim) ?aF ?aO ?aB ?aS ?aL ?_; (case aP => exact rfl); (case aB => exact Ql0_); (case aF => exact (fun k_ hk => Kd.fresh' (Kd.R_lt (Qr_ HO_139003.out)) k_ hk)); (case aO => exact (Qr_ HO_139002.out)); (case aS => exact (below_size Ql0_)); (case aL => have := LMc46.out; omega); intro v145 w51 ho hb hg hat; rw [← Ny144.out] at ho; have nr_ := Aside0.mk (Kd.R_after (ok := (fun k_ => some k_ ≠ (u139003 : Value).ownBlock)) (by (with_reducible repeat (first | apply Kd.R_alloc | apply Kd.R_drewN | apply Kd.R_drew)); exact Kd.R_mono HOR.out (fun _ hk => ⟨hk.2, hk.1⟩)) hg hat); clear HOR; have HOR := nr_; clear nr_; have n0_ := Aside0.mk (Kd.R_after (ok := (fun _ => True)) (by (with_reducible repeat (first | apply Kd.R_alloc | apply Kd.R_drewN | apply Kd.R_drew)); exact Kd.R_mono HO_139003.out (fun _ hk => ⟨trivial, hk⟩)) hg hat); have n1_ := Aside0.mk (blk_grown (g := gb120) (o := .cells #[.int .i64 0, .int .i64 0, .slice none 0 0, .slice none 0 0] 25 (0, 0)) (Qk_ BK120.out) hg (Kd.R_ne HO_139002.out BK120.out (by decide))); have n2_ := Aside0.mk (blk_grown (g := gb138) (o := .cells #[.int .i64 a0, .int .i64 a1, u139002, u139003] 25 (0, 0)) (Qk_ BK138.out) hg (Kd.R_ne HO_139002.out BK138.out (by decide))); have n3_ := Aside0.mk (hb); have n4_ := Aside0.mk (ho); clear HO_139003; clear BK120; clear BK138; clear HB; clear HO_139002; have HO_139003 := n0_; have BK120 := n1_; have BK138 := n2_; have HB := n3_; have HO146 := n4_; clear n0_ n1_ n2_ n3_ n4_; clear ho hb hg hat; obtain ⟨Ao52, co52, eo52⟩ := Kd.R_slice HO146.out; subst eo52; have hcz53_0 : w51.cell? ⟨gb138, 0, none⟩ = some (.int .i64 a0) := (blk_cell BK138.out 0).trans rfl; have hcz53_1 : w51.cell? ⟨gb138, 1, none⟩ = some (.int .i64 a1) := (blk_cell BK138.out 1).trans rfl; have hcz53_2 : w51.cell? ⟨gb138, 2, none⟩ = some (u139002) := (blk_cell BK138.out 2).trans rfl; have hcz53_3 : w51.cell? ⟨gb138, 3, none⟩ = some (u139003) := (blk_cell BK138.out 3).trans rfl; have hfz53_0 := blk_frozen BK138.out 0; have hfz53_1 := blk_frozen BK138.out 1; have hfz53_2 := blk_frozen BK138.out 2; have hfz53_3 := blk_frozen BK138.out 3))
                 have n0_ : Aside0 (Kd.R Kd.string 9 (w51.setCell ⟨gb138, 2, none⟩ (.slice Ao52 y144.length co52)) w.heap.size (fun k_ => some k_ ≠ (.slice Ao52 y144.length co52 : Value).ownBlock) u139003 x139003_2) := ⟨by (with_reducible repeat (first | apply Kd.R_alloc | apply Kd.R_drewN | apply Kd.R_drew)); exact Kd.R_mono (Kd.R_far (p := ⟨gb138, 2, none⟩) (Kd.R_types HO_139003.out BK138.out (by decide)) (fun _ hk => hk.2) (.slice Ao52 y144.length co52)) (fun _ hk => hk.1.2)⟩
                 have n1_ : Aside0 (Kd.R Kd.string 9 (w51.setCell ⟨gb138, 2, none⟩ (.slice Ao52 y144.length co52)) w.heap.size (fun k_ => some k_ ≠ (u139003 : Value).ownBlock) (.slice Ao52 y144.length co52) y144) := ⟨by (with_reducible repeat (first | apply Kd.R_alloc | apply Kd.R_drewN | apply Kd.R_drew)); exact Kd.R_mono (Kd.R_far (p := ⟨gb138, 2, none⟩) (Kd.R_types HO146.out BK138.out (by decide)) (fun _ hk => hk.2) (.slice Ao52 y144.length co52)) (fun _ hk => hk.1)⟩
                 have n2_ : Aside0 ((w51.setCell ⟨gb138, 2, none⟩ (.slice Ao52 y144.length co52)).heap[gb120]? = some (.cells #[.int .i64 0, .int .i64 0, .slice none 0 0, .slice none 0 0] 25 (0, 0))) := ⟨Qr1_⟩
                 have n3_ : Aside0 ((w51.setCell ⟨gb138, 2, none⟩ (.slice Ao52 y144.length co52)).heap[gb138]? = some (.cells #[.int .i64 a0, .int .i64 a1, .slice Ao52 y144.length co52, u139003] 25 (0, 0))) := ⟨by (with_reducible repeat (first | refine blk_drewN ?_ _ | refine blk_drew ?_ | refine blk_alloc ?_ _)); refine blk_put (cs := #[.int .i64 a0, .int .i64 a1, u139002, u139003]) ?_ 2 _ rfl; (with_reducible repeat (first | refine blk_drewN ?_ _ | refine blk_drew ?_ | refine blk_alloc ?_ _)); exact BK138.out⟩
                 have n4_ : Aside0 (Below w.heap.size w (w51.setCell ⟨gb138, 2, none⟩ (.slice Ao52 y144.length co52))) := ⟨Ql0_⟩
                 have nr_ : Aside0 (Kd.R Kd.string 9 (w51.setCell ⟨gb138, 2, none⟩ (.slice Ao52 y144.length co52)) w.heap.size (fun k_ => some k_ ≠ (u139003 : Value).ownBlock ∧ some k_ ≠ (.slice Ao52 y144.length co52 : Value).ownBlock) (.slice (some ad143) t129.length co33) t129) := ⟨by (with_reducible repeat (first | apply Kd.R_alloc | apply Kd.R_drewN | apply Kd.R_drew)); exact Kd.R_mono (Kd.R_far (p := ⟨gb138, 2, none⟩) (Kd.R_types HOR.out BK138.out (by decide)) (fun _ hk => hk.2) (.slice Ao52 y144.length co52)) (fun _ hk => hk.1)⟩
                 clear HOR
                 (try clear HO_139003)
                 (try clear HO146)
                 (try clear BK120)
                 (try clear BK138)
                 (try clear HB)
                 generalize (w51.setCell ⟨gb138, 2, none⟩ (.slice Ao52 y144.length co52)) = w54 at n0_ n1_ n2_ n3_ n4_ nr_ ⊢
                 have HOR := nr_
                 clear nr_
                 have HO_139003 := n0_
                 have HO146 := n1_
                 have BK120 := n2_
                 have BK138 := n3_
                 have HB := n4_
                 clear n0_ n1_ n2_ n3_ n4_
                 have nr_ := Aside0.mk (Kd.R_drew HOR.out)
                 clear HOR
                 have HOR := nr_
                 clear nr_
                 have n0_ := Aside0.mk (Kd.R_drew HO_139003.out)
                 have n1_ := Aside0.mk (Kd.R_drew HO146.out)
                 have n2_ := Aside0.mk (blk_drew BK120.out)
                 have n3_ := Aside0.mk (blk_drew BK138.out)
                 have n4_ := Aside0.mk (below_drew1 HB.out)
                 clear HO_139003
                 clear HO146
                 clear BK120
                 clear BK138
                 clear HB
                 have HO_139003 := n0_
                 have HO146 := n1_
                 have BK120 := n2_
                 have BK138 := n3_
                 have HB := n4_
                 clear n0_ n1_ n2_ n3_ n4_
                 refine start_ (n := 8) (S := fun w' => w'.cell? ⟨gb138, 0, none⟩ = some (.int .i64 a0) ∧ w'.cell? ⟨gb138, 1, none⟩ = some (.int .i64 a1) ∧ w'.cell? ⟨gb138, 2, none⟩ = some (.slice Ao52 y144.length co52) ∧ w'.cell? ⟨gb138, 3, none⟩ = some (u139003)) (ds := [7]) #[false, false, false, false, false, false, false, false] Qi0_ rfl rfl ⟨(blk_cell BK138.out 0).trans rfl, (blk_cell BK138.out 1).trans rfl, (blk_cell BK138.out 2).trans rfl, (blk_cell BK138.out 3).trans rfl⟩ (fun hHeld => ?_); refine with_tabW impl_MakeBlockCode.tab14 impl_MakeBlockCode.bits14 (fun HT_ HW_ => ?_)
                 generalize w54.drew = w55 at HO_139003 HO146 BK120 BK138 HB HOR hHeld ⊢
                 refine pure_ (i := 0) (N := some 65) (v := ?_) (a' := ?_) #[true, false, false, false, false, false, false, false] rfl rfl (any_of HT_.out Qi0_) (fun _ _ _ h => h) (Or.inl ⟨by rfl, ?_⟩) ?_ ?_
                 rotate_left
                 ·intro w'
                  go_simp
                  with_reducible rfl
                 rotate_left
                 ·simp only [Act.put, List.setIfInBounds_toArray, List.set_cons_zero, List.set_cons_succ, i64_w, i32_w]
                  rfl
                 refine pure_ (i := 2) (N := some 67) (v := ?_) (a' := ?_) #[true, false, true, false, false, false, false, false] rfl rfl (any_of HT_.out Qi0_) (fun _ _ _ h => h) (Or.inl ⟨by rfl, ?_⟩) ?_ ?_
                 rotate_left
                 ·intro w'
                  go_simp
                  with_reducible rfl
                 rotate_left
                 ·simp only [Act.put, List.setIfInBounds_toArray, List.set_cons_zero, List.set_cons_succ, i64_w, i32_w]
                  rfl
                 refine take_ (i := 1) (N := some 66) (v := ?_) (a' := ?_) #[true, true, true, false, false, false, false, false] rfl rfl (take_ofW HT_.out HW_.out Qi0_) (fun _ _ _ h => h) (Or.inl ⟨by rfl, ?_⟩) hHeld ?_ ?_
                 rotate_left
                 ·rintro w' ⟨s0, s1, s2, s3⟩
                  go_simp
                  with_reducible rfl
                 rotate_left
                 ·simp only [Act.put, List.setIfInBounds_toArray, List.set_cons_zero, List.set_cons_succ, i64_w, i32_w]
                  rfl
                 refine one_ (i := 3) (N := some 68) #[true, true, true, true, false, false, false, false] rfl rfl (one_of HT_.out Qi0_) (by decide) (fun K hK => ?_)
                 refine goes_ Tryz.func25 Qi0_ rfl #[.string (rdOf ByteArray.empty y139 x55_2)] (by rfl) rfl rfl Qb0_ ?_
                 with_reducible refine (impl_opposite.calls k2 (rdOf ByteArray.empty y139 x55_2) t147 _ A47.out).mono ?_
                 rintro e w56 ⟨rfl, hb⟩
                 refine ⟨_, rfl, ?_⟩
                 have nr_ := Aside0.mk (Kd.R_below (Qr_ HOR.out) hb)
                 clear HOR
                 have HOR := nr_
                 clear nr_
                 have n0_ := Aside0.mk (Kd.R_below (Qr_ HO_139003.out) hb)
                 have n1_ := Aside0.mk (Kd.R_below (Qr_ HO146.out) hb)
                 have n2_ := Aside0.mk (blk_below (g := gb120) (o := .cells #[.int .i64 0, .int .i64 0, .slice none 0 0, .slice none 0 0] 25 (0, 0)) (Qk_ BK120.out) hb)
                 have n3_ := Aside0.mk (blk_below (g := gb138) (o := .cells #[.int .i64 a0, .int .i64 a1, .slice Ao52 y144.length co52, u139003] 25 (0, 0)) (Qk_ BK138.out) hb)
                 have n4_ := Aside0.mk (below_step Ql0_ hb)
                 clear HO_139003
                 clear HO146
                 clear BK120
                 clear BK138
                 clear HB
                 have HO_139003 := n0_
                 have HO146 := n1_
                 have BK120 := n2_
                 have BK138 := n3_
                 have HB := n4_
                 clear n0_ n1_ n2_ n3_ n4_
                 (try clear hb)
                 (try clear hb2)
                 (try clear hk)
                 (try clear hi)
                 refine hK.out _ _ ⟨(blk_cell BK138.out 0).trans rfl, (blk_cell BK138.out 1).trans rfl, (blk_cell BK138.out 2).trans rfl, (blk_cell BK138.out 3).trans rfl⟩ (fun hHeld => ?_)
                 clear hK K
                 refine norm_ (a' := ?_) ?_ ?_
                 rotate_left
                 ·show Act.put _ (some 68) _ = _
                  simp only [Act.put, List.setIfInBounds_toArray, List.set_cons_zero, List.set_cons_succ, i64_w, i32_w]
                  rfl
                 refine one_ (i := 4) (N := some 69) #[true, true, true, true, true, false, false, false] rfl rfl (one_of HT_.out Qi0_) (by decide) (fun K hK => ?_)
                 refine value_ (w1 := ?_) (v := ?_) (by rfl) rfl ?_ ?_
                 rotate_left 2
                 ·go_simp
                  constructor
                  ·rfl
                  ·rfl
                 refine hK.out _ _ ⟨(blk_cell (blk_alloc BK138.out _) 0).trans rfl, (blk_cell (blk_alloc BK138.out _) 1).trans rfl, (blk_cell (blk_alloc BK138.out _) 2).trans rfl, (blk_cell (blk_alloc BK138.out _) 3).trans rfl⟩ (fun hHeld => ?_)
                 clear hK K
                 refine norm_ (a' := ?_) ?_ ?_
                 rotate_left
                 ·show Act.put _ (some 69) _ = _
                  simp only [Act.put, List.setIfInBounds_toArray, List.set_cons_zero, List.set_cons_succ, i64_w, i32_w]
                  rfl
                 refine one_ (i := 5) (N := some 70) #[true, true, true, true, true, true, false, false] rfl rfl (one_of HT_.out Qi0_) (by decide) (fun K hK => ?_)
                 refine Kd.R_append_step Kd.string (w0 := w) w.heap.size (by rfl) (.tmp 66) (.tmp 69) 23 9 (.string ⟨#[]⟩) 16 rfl Tryz.underlying23 info9 rfl (by decide) (by omega) u139003 x139003_2 t147 [.string t147] (fun k_ => some k_ ≠ (.slice Ao52 y144.length co52 : Value).ownBlock) (fun _ => False) rfl rfl ?aP (fun _ hk => hk.elim) ?aF ?aO ?aB ?aS ?aL ?_
                 (case aP => exact rfl)
                 (case aB => exact Ql0_)
                 (case aF => exact (fun k_ hk => Kd.fresh' (Kd.R_lt (Qr_ HO146.out)) k_ hk))
                 (case aO => exact (Qr_ HO_139003.out))
                 (case aS => exact (below_size Ql0_))
                 (case aL => have := LMc48.out; omega)
                 intro v149 w57 ho hb hg hat
                 rw [← Ny148.out] at ho
                 have nr_ := Aside0.mk (Kd.R_after (ok := (fun k_ => some k_ ≠ (.slice Ao52 y144.length co52 : Value).ownBlock)) (by (with_reducible repeat (first | apply Kd.R_alloc | apply Kd.R_drewN | apply Kd.R_drew)); exact Kd.R_mono HOR.out (fun _ hk => ⟨hk.2, hk.1⟩)) hg hat); clear HOR; have HOR := nr_; clear nr_
                 have n0_ := Aside0.mk (blk_grown (g := gb120) (o := .cells #[.int .i64 0, .int .i64 0, .slice none 0 0, .slice none 0 0] 25 (0, 0)) (Qk_ BK120.out) hg (Kd.R_ne HO_139003.out BK120.out (by decide)))
                 have n1_ := Aside0.mk (blk_grown (g := gb138) (o := .cells #[.int .i64 a0, .int .i64 a1, .slice Ao52 y144.length co52, u139003] 25 (0, 0)) (Qk_ BK138.out) hg (Kd.R_ne HO_139003.out BK138.out (by decide)))
                 have n2_ := Aside0.mk (Kd.R_after (ok := (fun _ => True)) (by (with_reducible repeat (first | apply Kd.R_alloc | apply Kd.R_drewN | apply Kd.R_drew)); exact Kd.R_mono HO146.out (fun _ hk => ⟨trivial, hk⟩)) hg hat)
                 have n3_ := Aside0.mk (hb)
                 have n4_ := Aside0.mk (ho)
                 clear BK120
                 clear BK138
                 clear HO146
                 clear HB
                 clear HO_139003
                 have BK120 := n0_
                 have BK138 := n1_
                 have HO146 := n2_
                 have HB := n3_
                 have HO150 := n4_
                 clear n0_ n1_ n2_ n3_ n4_
                 clear ho hb hg hat
                 obtain ⟨Ao58, co58, eo58⟩ := Kd.R_slice HO150.out
                 (first | subst eo58 | (injection eo58 with f1_ f2_ f3_; have f4_ := f1_.symm; have f5_ := f3_.symm; clear f1_ f2_ f3_; subst f4_; subst f5_))
                 refine hK.out _ _ ⟨(blk_cell BK138.out 0).trans rfl, (blk_cell BK138.out 1).trans rfl, (blk_cell BK138.out 2).trans rfl, (blk_cell BK138.out 3).trans rfl⟩ (fun hHeld => ?_)
                 clear hK K
                 refine norm_ (a' := ?_) ?_ ?_
                 rotate_left
                 ·show Act.put _ (some 70) _ = _
                  simp only [Act.put, List.setIfInBounds_toArray, List.set_cons_zero, List.set_cons_succ, i64_w, i32_w]
                  rfl
                 refine pure_ (i := 6) (N := some 71) (v := ?_) (a' := ?_) #[true, true, true, true, true, true, true, false] rfl rfl (any_of HT_.out Qi0_) (fun _ _ _ h => h) (Or.inl ⟨by rfl, ?_⟩) ?_ ?_
                 rotate_left
                 ·intro w'
                  go_simp
                  with_reducible rfl
                 rotate_left
                 ·simp only [Act.put, List.setIfInBounds_toArray, List.set_cons_zero, List.set_cons_succ, i64_w, i32_w]
                  rfl
                 refine last_ (i := 7) (N := none) #[true, true, true, true, true, true, true, true] rfl rfl (one_of HT_.out Qi0_) (by decide) (fun K hK => ?_)
                 have hs59 : w57.cell? ⟨gb138, 3, none⟩ = some (u139003) := (blk_cell BK138.out 3).trans rfl
                 have hfs59 := blk_frozen BK138.out 3
                 have hns59_0 := NB120_138.out
                 have hms59_0 := NB138_120.out
                 refine skip_ (w1 := ?_) (by rfl) rfl ?_ ?_
                 rotate_left
                 ·go_simp
                  rfl
                 refine hK.out _ _ ?_
                 clear hK K
                 refine done_ (done_of HT_.out Qi0_) ?_
                 try go_wp2
                 go_roundg k2
                 case measure => have := HJ2.out; have := HK2.out; omega
                 case rel => exact ⟨(wrap64 (x55_2 + 1)), (y144), (y148), (.slice Ao52 y144.length co52), (.slice Ao58 y148.length co58), Qc0_, H', ⟨by have := HJ2.out; have := HK2.out; omega⟩, ⟨by (with_reducible repeat (first | apply Kd.R_alloc | apply Kd.R_drewN | apply Kd.R_drew)); exact Kd.R_mono (Kd.R_far (p := ⟨gb138, 3, none⟩) (Kd.R_types HO146.out BK138.out (by decide)) (fun _ hk => hk.2) (.slice Ao58 y148.length co58)) (fun _ hk => hk.1.2)⟩, ⟨by (with_reducible repeat (first | apply Kd.R_alloc | apply Kd.R_drewN | apply Kd.R_drew)); exact Kd.R_mono (Kd.R_far (p := ⟨gb138, 3, none⟩) (Kd.R_types HO150.out BK138.out (by decide)) (fun _ hk => hk.2) (.slice Ao58 y148.length co58)) (fun _ hk => hk.1)⟩, ⟨Qr1_⟩, ⟨by (with_reducible repeat (first | refine blk_drewN ?_ _ | refine blk_drew ?_ | refine blk_alloc ?_ _)); refine blk_put (cs := #[.int .i64 a0, .int .i64 a1, .slice Ao52 y144.length co52, u139003]) ?_ 3 _ rfl; (with_reducible repeat (first | refine blk_drewN ?_ _ | refine blk_drew ?_ | refine blk_alloc ?_ _)); exact BK138.out⟩, ⟨Ql0_⟩, ⟨by (with_reducible repeat (first | apply Kd.R_alloc | apply Kd.R_drewN | apply Kd.R_drew)); exact Kd.R_mono (Kd.R_far (p := ⟨gb138, 3, none⟩) (Kd.R_types HOR.out BK138.out (by decide)) (fun _ hk => hk.2) (.slice Ao58 y148.length co58)) (fun _ hk => hk.1)⟩⟩
                ·rw [if_neg c48] at H
                 exact absurd H (by simp)
               ·rw [if_neg c46] at H
                exact absurd H (by simp)
              ·rw [if_neg c45] at H
               exact absurd H (by simp)
             ·rw [if_neg c44] at H
              exact absurd H (by simp)
            ·rw [if_neg c43] at H
             have c43b0 := decide_eq_false c43
             clear c43
             simp only [Option.some.injEq, Prod.mk.injEq] at H
             obtain ⟨rfl, rfl, rfl, rfl, rfl⟩ := H
             have hnb60 := NB138_120.out
             have hnc60 := NB120_138.out
             have hcz61_0 : wr.cell? ⟨gb138, 0, none⟩ = some (.int .i64 a0) := (blk_cell BK138.out 0).trans rfl
             have hcz61_1 : wr.cell? ⟨gb138, 1, none⟩ = some (.int .i64 a1) := (blk_cell BK138.out 1).trans rfl
             have hcz61_2 : wr.cell? ⟨gb138, 2, none⟩ = some (u139002) := (blk_cell BK138.out 2).trans rfl
             have hcz61_3 : wr.cell? ⟨gb138, 3, none⟩ = some (u139003) := (blk_cell BK138.out 3).trans rfl
             have hfz61_0 := blk_frozen BK138.out 0
             have hfz61_1 := blk_frozen BK138.out 1
             have hfz61_2 := blk_frozen BK138.out 2
             have hfz61_3 := blk_frozen BK138.out 3
             have hcz62_0 : wr.cell? ⟨gb120, 0, none⟩ = some (.int .i64 0) := (blk_cell BK120.out 0).trans rfl
             have hcz62_1 : wr.cell? ⟨gb120, 1, none⟩ = some (.int .i64 0) := (blk_cell BK120.out 1).trans rfl
             have hcz62_2 : wr.cell? ⟨gb120, 2, none⟩ = some (.slice none 0 0) := (blk_cell BK120.out 2).trans rfl
             have hcz62_3 : wr.cell? ⟨gb120, 3, none⟩ = some (.slice none 0 0) := (blk_cell BK120.out 3).trans rfl
             have hfz62_0 := blk_frozen BK120.out 0
             have hfz62_1 := blk_frozen BK120.out 1
             have hfz62_2 := blk_frozen BK120.out 2
             have hfz62_3 := blk_frozen BK120.out 3
             obtain ⟨Ao63, co63, eo63⟩ := Kd.R_slice HO_139002.out
             subst eo63
             obtain ⟨Ao64, co64, eo64⟩ := Kd.R_slice HO_139003.out
             subst eo64
             go_wp2
             refine bodyPost_ret (results_ct rfl _ _ gb120 25 #[.int .i64 a0, .int .i64 a1, .slice Ao63 x139002_2.length co63, .slice Ao64 x139003_2.length co64] (0, 0) _ rfl (by (with_reducible repeat (first | refine blk_drewN ?_ _ | refine blk_drew ?_ | refine blk_alloc ?_ _)); refine blk_put (cs := #[.int .i64 a0, .int .i64 a1, .slice Ao63 x139002_2.length co63, .slice none 0 0]) ?_ 3 _ rfl; (with_reducible repeat (first | refine blk_drewN ?_ _ | refine blk_drew ?_ | refine blk_alloc ?_ _)); refine blk_put (cs := #[.int .i64 a0, .int .i64 a1, .slice none 0 0, .slice none 0 0]) ?_ 2 _ rfl; (with_reducible repeat (first | refine blk_drewN ?_ _ | refine blk_drew ?_ | refine blk_alloc ?_ _)); refine blk_put (cs := #[.int .i64 a0, .int .i64 0, .slice none 0 0, .slice none 0 0]) ?_ 1 _ rfl; (with_reducible repeat (first | refine blk_drewN ?_ _ | refine blk_drew ?_ | refine blk_alloc ?_ _)); refine blk_put (cs := #[.int .i64 0, .int .i64 0, .slice none 0 0, .slice none 0 0]) ?_ 0 _ rfl; (with_reducible repeat (first | refine blk_drewN ?_ _ | refine blk_drew ?_ | refine blk_alloc ?_ _)); exact BK120.out) Tryz.underlying25 rfl Qi0_) rfl ?_
             exact ⟨_, _, by first | rfl | (simp [errW_none, errW_some] <;> rfl) | (simp only [← hji11, ← hji13, ← hji26]; first | rfl | (simp [errW_none, errW_some] <;> rfl)) | (simp [*, errW_none, errW_some] <;> rfl), by (with_reducible repeat (first | apply Kd.R_alloc | apply Kd.R_drewN | apply Kd.R_drew)); exact Kd.R_mono (Kd.R_far (p := ⟨gb120, 3, none⟩) (Kd.R_far (p := ⟨gb120, 2, none⟩) (Kd.R_far (p := ⟨gb120, 1, none⟩) (Kd.R_far (p := ⟨gb120, 0, none⟩) (Kd.R_types HO_139002.out BK120.out (by decide)) (fun _ hk => hk.2) (.int .i64 a0)) (fun _ hk => hk.2) (.int .i64 a1)) (fun _ hk => hk.2) (.slice Ao63 x139002_2.length co63)) (fun _ hk => hk.2) (.slice Ao64 x139003_2.length co64)) (fun _ hk => hk.1), by (with_reducible repeat (first | apply Kd.R_alloc | apply Kd.R_drewN | apply Kd.R_drew)); exact Kd.R_mono (Kd.R_far (p := ⟨gb120, 3, none⟩) (Kd.R_far (p := ⟨gb120, 2, none⟩) (Kd.R_far (p := ⟨gb120, 1, none⟩) (Kd.R_far (p := ⟨gb120, 0, none⟩) (Kd.R_types HO_139003.out BK120.out (by decide)) (fun _ hk => hk.2) (.int .i64 a0)) (fun _ hk => hk.2) (.int .i64 a1)) (fun _ hk => hk.2) (.slice Ao63 x139002_2.length co63)) (fun _ hk => hk.2) (.slice Ao64 x139003_2.length co64)) (fun _ hk => hk.1), Ql0_⟩
         ·rw [if_neg c28] at H
          exact absurd H (by simp)
        ·rw [if_neg c27] at H
         exact absurd H (by simp)
      ·rw [if_neg c15] at H
       exact absurd H (by simp)
     ·rw [if_neg c14] at H
      exact absurd H (by simp)
    ·rw [if_neg c10] at H
     exact absurd H (by simp)
def impl_areIn.l0 : Nat → Int → Int → List Int → Int → Int → Option (Bool)
 | 0, _, _, _, _, _ => none
 | k + 1, x1, x2, x9, x10, x11 => if x11 < x10 then (if 0 ≤ x11 then (if x11 < (x9.length : Int) then ((impl_within.f (rd x9 x11) x1 x2).bind fun t152 => (if t152 = true then (impl_areIn.l0 k x1 x2 x9 x10 (wrap64 (x11 + 1))) else (some false))) else (none)) else (none)) else (some true)
def impl_areIn.f (k : Nat) (l0 : List Int) (a1 : Int) (a2 : Int) : Option (Bool) := impl_areIn.l0 k a1 a2 l0 (l0.length : Int) 0
set_option maxHeartbeats 8000000 in
set_option maxRecDepth 100000 in
theorem impl_areIn.calls (k : Nat) (A0 : Option Addr) (c0 : Nat) (l0 : List Int) (a1 : Int) (a2 : Int) (r : Bool) (w : World) (hr0 : Kd.C (Kd.int .i64) w A0 l0.length l0) (hc0 : l0.length ≤ c0) (h : impl_areIn.f k l0 a1 a2 = some r) :
 Calls Tryz.prog 26 #[.slice A0 l0.length c0, .int .i64 a1, .int .i64 a2] w fun e w' => e = .returned (.bool r) ∧ Drawn0 w w' := by
 have HR0 := Aside0.mk hr0
 have HC0 := Aside0.mk hc0
 clear hr0 hc0
 have H : (impl_areIn.l0 k a1 a2 l0 (l0.length : Int) 0) = some r := h
 clear h
 have H' := Aside0.mk H
 clear H
 go_enter Tryz.func26, Tryz.ntmps26
 go_wp2
 go_loopg [11] k (fun kq v11 w' => ∃ (x11_1 : Int), v11 = .int .i64 x11_1 ∧ Aside0 (impl_areIn.l0 kq a1 a2 l0 (l0.length : Int) x11_1 = some r) ∧ Aside0 (kq ≤ k) ∧ Drawn0 w w')
 case atStart => exact ⟨(0), Qc0_, H', ⟨Nat.le_refl _⟩, Qd0_⟩
 case round =>
  clear H'
  try clear c2
  try clear p2
  obtain ⟨x11_1, rfl, HA, HK1, ⟨m1, rfl⟩⟩ := hrel
  cases gk with
  | zero => exact absurd HA.out (by simp [impl_areIn.l0])
  | succ k1 =>
   have H := HA.out
   clear HA
   simp only [impl_areIn.l0] at H
   by_cases c4 : x11_1 < (l0.length : Int)
   ·rw [if_pos c4] at H
    have c4b0 := decide_eq_true c4
    clear c4
    by_cases c5 : 0 ≤ x11_1
    ·rw [if_pos c5] at H
     have c5b0 := decide_eq_true c5
     clear c5
     by_cases c6 : x11_1 < (l0.length : Int)
     ·rw [if_pos c6] at H
      have c6b0 := decide_eq_true c6
      clear c6
      replace H := Option.bind_eq_some_iff.mp H
      obtain ⟨t152, A70, H⟩ := H
      try dsimp only at H
      have A7 := Aside0.mk A70
      clear A70
      by_cases c8 : t152 = true
      ·subst c8
       rw [if_pos rfl] at H
       have H1 := H
       clear H
       have H := H1
       clear H1
       have H' := Aside0.mk H
       clear H
       have p151 : 0 ≤ (x11_1 : Int) := of_decide_eq_true Qf0_
       have q151 : x11_1 < (l0.length : Int) := of_decide_eq_true Qf0_
       obtain ⟨ad151, e151, hx151_0⟩ := Kd.at_int HR0.out x11_1 p151 q151
       cases e151
       replace p151 := eq_true p151
       replace q151 := eq_true q151
       go_wp2_with (first | ((with_reducible refine gate_callee (f := 63) rfl ?_); refine goesL_ (some 18) rfl rfl Tryz.func63 Qi0_ rfl #[.int .i64 (rd l0 x11_1), .int .i64 a1, .int .i64 a2] rfl Qb0_ ?_; (with_reducible refine (impl_within.calls (rd l0 x11_1) a1 a2 true _ A7.out).mono ?_); rintro e w' ⟨rfl, ⟨nd, rfl⟩⟩; refine ⟨_, rfl, ?_⟩))
       go_roundg k1
       case measure => have := HK1.out; omega
       case rel => exact ⟨(wrap64 (x11_1 + 1)), Qc0_, H', ⟨Qp0_⟩, Qd0_⟩
      ·replace c8 := Bool.eq_false_iff.mpr c8
       subst c8
       rw [if_neg (show ¬ (false = true) by decide)] at H
       have H1 := H
       clear H
       have H := H1
       clear H1
       obtain rfl := Option.some.inj H
       have p151 : 0 ≤ (x11_1 : Int) := of_decide_eq_true Qf0_
       have q151 : x11_1 < (l0.length : Int) := of_decide_eq_true Qf0_
       obtain ⟨ad151, e151, hx151_0⟩ := Kd.at_int HR0.out x11_1 p151 q151
       cases e151
       replace p151 := eq_true p151
       replace q151 := eq_true q151
       go_wp2_with (first | ((with_reducible refine gate_callee (f := 63) rfl ?_); refine goesL_ (some 18) rfl rfl Tryz.func63 Qi0_ rfl #[.int .i64 (rd l0 x11_1), .int .i64 a1, .int .i64 a2] rfl Qb0_ ?_; (with_reducible refine (impl_within.calls (rd l0 x11_1) a1 a2 false _ A7.out).mono ?_); rintro e w' ⟨rfl, ⟨nd, rfl⟩⟩; refine ⟨_, rfl, ?_⟩))
       go_ret
       exact ⟨Qc0_, Qd0_⟩
     ·rw [if_neg c6] at H
      exact absurd H (by simp)
    ·rw [if_neg c5] at H
     exact absurd H (by simp)
   ·rw [if_neg c4] at H
    have c4b0 := decide_eq_false c4
    clear c4
    obtain rfl := Option.some.inj H
    go_wp2
    go_ret
    exact ⟨Qc0_, Qd0_⟩
theorem tabBelow0 {w w' : World} (h : Lib.TabIs Tryz.prog w "internal/strconv.uint64pow10" .u64 Lib.pow10Tab) (hb : Below w.heap.size w w') : Lib.TabIs Tryz.prog w' "internal/strconv.uint64pow10" .u64 Lib.pow10Tab := by
 unfold Lib.TabIs World.var? at *
 cases hg : Tryz.prog.globalNamed "internal/strconv.uint64pow10" with
 | none => simp [hg] at h
 | some g =>
  simp only [hg, Option.bind_some] at h ⊢
  have hlt : g < w.heap.size := by
   rcases Nat.lt_or_ge g w.heap.size with h1 | h1
   ·exact h1
   ·simp [Array.getElem?_eq_none h1] at h
  rw [hb.block g hlt]
  exact h
def LibW (w : World) : Prop := Lib.TabIs Tryz.prog w "internal/strconv.uint64pow10" .u64 Lib.pow10Tab ∧ (∃ ev, w.cell? ⟨6, 0, none⟩ = some ev ∧ (ev = .nilIface ∨ ∃ te pe, ev = .iface te pe)) ∧ (∃ ev, w.cell? ⟨7, 0, none⟩ = some ev ∧ (ev = .nilIface ∨ ∃ te pe, ev = .iface te pe))
theorem tabBelow {w w' : World} (h : LibW w) (hb : Below w.heap.size w w') : LibW w' := by
 obtain ⟨h1, ⟨e1, h2, h3⟩, ⟨e2, h4, h5⟩⟩ := h
 exact ⟨tabBelow0 h1 hb, ⟨e1, (hb.cell (World.block_lt_of_cell? w _ h2)).trans h2, h3⟩, ⟨e2, (hb.cell (World.block_lt_of_cell? w _ h4)).trans h4, h5⟩⟩
def strconv_FormatInt.f (a0 : Int) (a1 : Int) : Option (ByteArray) := if a1 = 10 ∧ -9223372036854775808 ≤ a0 ∧ a0 ≤ 9223372036854775807 then some ⟨(Lib.itoa a0).toArray⟩ else none
theorem strconv_FormatInt.calls (a0 : Int) (a1 : Int) (r : ByteArray) (w : World) (hT : LibW w) (h : strconv_FormatInt.f a0 a1 = some r) :
 Calls Tryz.prog 37 #[.int .i64 a0, .int .i64 a1] w fun e w' => e = .returned (.string r) ∧ Below w.heap.size w w' := by
 unfold strconv_FormatInt.f at h
 by_cases hc : a1 = 10 ∧ -9223372036854775808 ≤ a0 ∧ a0 ≤ 9223372036854775807
 ·rw [if_pos hc] at h
  obtain rfl := Option.some.inj h
  obtain ⟨rfl, h0, h1⟩ := hc
  refine (Tryz.strconv_FormatInt_10 a0 h0 h1 w hT.1).mono ?_
  rintro e w' ⟨he, k, os, rfl⟩
  exact ⟨he, Go.Lib.below_grow _ w (Nat.le_refl _) k os⟩
 ·rw [if_neg hc] at h
  cases h
def impl_Decimal.f (a0 : Int) : Option (ByteArray) := (strconv_FormatInt.f a0 10).bind fun t153 => (some t153)
set_option maxHeartbeats 8000000 in
set_option maxRecDepth 100000 in
theorem impl_Decimal.calls (a0 : Int) (r : ByteArray) (w : World) (hT : LibW w) (h : impl_Decimal.f a0 = some r) :
 Calls Tryz.prog 9 #[.int .i64 a0] w fun e w' => e = .returned (.string r) ∧ Below w.heap.size w w' := by
 have HT := Aside0.mk hT
 clear hT
 have HB := Aside0.mk (Below.refl w.heap.size w)
 have H : ((strconv_FormatInt.f a0 10).bind fun t153 => (some t153)) = some r := h
 clear h
 replace H := Option.bind_eq_some_iff.mp H
 obtain ⟨t153, A20, H⟩ := H
 try dsimp only at H
 have A2 := Aside0.mk A20
 clear A20
 obtain rfl := Option.some.inj H
 go_enter Tryz.func9, Tryz.ntmps9
 go_wp2_with (first | ((with_reducible refine gate_callee (f := 37) rfl ?_); refine goesL_ (some 4) rfl rfl Tryz.func37 Qi0_ rfl #[.int .i64 a0, .int .i64 10] rfl Qb0_ ?_; (with_reducible refine (strconv_FormatInt.calls a0 10 t153 _ ?tb A2.out).mono ?_); (case tb => exact Qg0_); rintro e w3 ⟨rfl, hb⟩; refine ⟨_, rfl, ?_⟩; have n0_ := Aside0.mk (below_step Qa0_ hb); clear HB; have HB := n0_; clear n0_; (try clear hb); (try clear hb2); (try clear hk); (try clear hi)))
 go_ret
 exact ⟨Qe0_, Qa0_⟩
def joinT (xs : List ByteArray) (sep : ByteArray) : ByteArray := ⟨(Lib.join (xs.map (·.data.toList)) sep.data.toList).toArray⟩
def strings_Join.f (l0 : List ByteArray) (a1 : ByteArray) : Option (ByteArray) := if l0.length ≤ 140737488355328 ∧ (joinT l0 a1).size ≤ 140737488355328 then some (joinT l0 a1) else none
theorem strings_Join.calls (A0 : Option Addr) (c0 : Nat) (l0 : List ByteArray) (a1 : ByteArray) (r : ByteArray) (w : World) (hr0 : Kd.C Kd.string w A0 l0.length l0) (hc0 : l0.length ≤ c0) (h : strings_Join.f l0 a1 = some r) :
 Calls Tryz.prog 67 #[.slice A0 l0.length c0, .string a1] w fun e w' => e = .returned (.string r) ∧ Below w.heap.size w w' := by
 unfold strings_Join.f at h
 by_cases hl : l0.length ≤ 140737488355328 ∧ (joinT l0 a1).size ≤ 140737488355328
 ·rw [if_pos hl] at h
  obtain rfl := Option.some.inj h
  by_cases h0 : l0.length = 0
  ·have hnil : l0 = [] := List.length_eq_zero_iff.1 h0
   subst hnil
   refine (Tryz.strings_Join_none A0 c0 a1 w).mono fun e w' ⟨he, hw⟩ => ?_
   subst hw
   exact ⟨he, Below.refl _ _⟩
  ·obtain ⟨⟨bk, o, sp⟩, hA, hx⟩ := Kd.at_string hr0 0 (by decide) (by omega)
   subst hA
   have hx0 : w.cell? ⟨bk, o, sp⟩ = some (.string (rdOf ByteArray.empty l0 0)) := by simpa [Addr.add] using hx
   cases sp with
   | some s =>
    exfalso
    simp only [World.cell?] at hx0
    split at hx0
    ·exact absurd hx0 (by simp)
    ·exact absurd hx0 (by simp)
   | none =>
    have hcell : ∀ (j : Nat) x, l0[j]? = some x → w.cell? ⟨bk, o + j, none⟩ = some (.string x) := by
     intro j x hj
     obtain ⟨hjl, rfl⟩ := List.getElem?_eq_some_iff.1 hj
     obtain ⟨ad2, hA2, hx2⟩ := Kd.at_string hr0 (j : Int) (by omega) (by omega)
     injection hA2 with hA2
     subst hA2
     have e : rdOf ByteArray.empty l0 (j : Int) = l0[j] := by
      unfold rdOf
      rw [Int.toNat_natCast, List.getD_eq_getElem?_getD, List.getElem?_eq_getElem hjl]; rfl
     rw [e, Int.toNat_natCast] at hx2
     by_cases hj0 : j = 0
     ·subst hj0
      simpa [Addr.add] using hx2
     ·simpa [Addr.add, hj0] using hx2
    have hb : bk < w.heap.size := World.block_lt_of_cell? w _ hx0
    exact Tryz.strings_Join bk o c0 l0 a1 w hcell hb hl.1 hc0 (by have := hl.2; unfold joinT at this; exact this)
 ·rw [if_neg hl] at h
  exact absurd h (by simp)
end Go.Proofs.YtbjmbfjbjkhhdaaGreatDoor.QFnTopOfAll
