/- Made small by wip/pack.py: lemmas and contracts that the law's row leans on. -/
import Derived.Test.YtbjmbfjbjkhhdaaGreatDoorZFnTopOfAll27
import Derived.Test.YtbjmbfjbjkhhdaaGreatDoorZFnTopOfAll28
import Derived.Test.YtbjmbfjbjkhhdaaGreatDoorZFnTopOfAll29
import Derived.Test.YtbjmbfjbjkhhdaaGreatDoorZFnTopOfAll30
namespace Go.Proofs.YtbjmbfjbjkhhdaaGreatDoor.QFnTopOfAll
open Go.RowKit Go.Proofs.YtbjmbfjbjkhhdaaGreatDoorW.PrintWords Go.Proofs.YtbjmbfjbjkhhdaaGreatDoorW.PrintLast Go.Proofs.YtbjmbfjbjkhhdaaGreatDoorW.PrintMore
attribute [local go_sem] max2_int min2_int max_two min_two max_three min_three max_four min_four
set_option linter.unusedVariables false
set_option linter.unusedSimpArgs false
mutual
def impl_ValidBlockCode.j0 : Nat → Bool → Int → Int → List ByteArray → List ByteArray → Option (Bool)
 | 0, _, _, _, _, _ => none
 | k + 1, x29, x169000, x169001, x169002, x169003 => if x29 = true then (some false) else (impl_ValidBlockCode.l0 k x169002 (x169002.length : Int) 0 x169000 x169001 x169002 x169003)
def impl_ValidBlockCode.l0 : Nat → List ByteArray → Int → Int → Int → Int → List ByteArray → List ByteArray → Option (Bool)
 | 0, _, _, _, _, _, _, _ => none
 | k + 1, x31, x32, x33, x169000, x169001, x169002, x169003 => if x33 < x32 then (if 0 ≤ x33 then (if x33 < (x31.length : Int) then ((slices_Index_string_string.f k x169003 (rdOf ByteArray.empty x31 x33)).bind fun t174 => (if t174 ≥ 0 then (if t174 = x33 then (impl_ValidBlockCode.l0 k x31 x32 (wrap64 (x33 + 1)) x169000 x169001 x169002 x169003) else (some false)) else (impl_ValidBlockCode.l0 k x31 x32 (wrap64 (x33 + 1)) x169000 x169001 x169002 x169003))) else (none)) else (none)) else (some true)
end
def impl_ValidBlockCode.f (k : Nat) (a0_0 : Int) (a0_1 : Int) (l0_2 : List ByteArray) (l0_3 : List ByteArray) : Option (Bool) := (impl_isData.f a0_0).bind fun t169 => (if t169 = true then ((impl_isWidth.f a0_1).bind fun t170 => (if t170 = true then ((impl_BlockCode_areWords.f k a0_0 a0_1 l0_2 l0_3 l0_2 2).bind fun t171 => (if t171 = true then ((impl_BlockCode_areWords.f k a0_0 a0_1 l0_2 l0_3 l0_3 (-2)).bind fun t172 => (impl_ValidBlockCode.j0 k (!t172) a0_0 a0_1 l0_2 l0_3)) else (impl_ValidBlockCode.j0 k true a0_0 a0_1 l0_2 l0_3))) else (impl_ValidBlockCode.j0 k true a0_0 a0_1 l0_2 l0_3))) else (impl_ValidBlockCode.j0 k true a0_0 a0_1 l0_2 l0_3))
theorem impl_ValidBlockCode.mono_l : ∀ k, (∀ y0 y1 y2 y3 y4, LeO (impl_ValidBlockCode.j0 k y0 y1 y2 y3 y4) (impl_ValidBlockCode.j0 (k + 1) y0 y1 y2 y3 y4)) ∧ (∀ y0 y1 y2 y3 y4 y5 y6, LeO (impl_ValidBlockCode.l0 k y0 y1 y2 y3 y4 y5 y6) (impl_ValidBlockCode.l0 (k + 1) y0 y1 y2 y3 y4 y5 y6))
 | 0 => ⟨fun _ _ _ _ _ r h => by simp [impl_ValidBlockCode.j0] at h, fun _ _ _ _ _ _ _ r h => by simp [impl_ValidBlockCode.l0] at h⟩
 | k + 1 => by
  obtain ⟨ih0, ih1⟩ := impl_ValidBlockCode.mono_l k
  refine ⟨?_, ?_⟩
  all_goals (intros; first | unfold impl_ValidBlockCode.j0 | unfold impl_ValidBlockCode.l0)
  all_goals (repeat' first
   | (with_reducible exact ih0 _ _ _ _ _)
   | (with_reducible exact ih1 _ _ _ _ _ _ _)
   | (with_reducible exact impl_BlockCode_areWords.mono _ _ _ _ _ _ _)
   | (with_reducible exact slices_Index_string_string.mono _ _ _)
   | (with_reducible exact LeO.refl _)
   | (with_reducible exact LeO.none _)
   | (with_reducible refine LeO.ite ?_ ?_)
   | (with_reducible refine LeO.bind ?_ (fun _ => ?_))
   | exact ih0 _ _ _ _ _
   | exact ih1 _ _ _ _ _ _ _
   | exact impl_BlockCode_areWords.mono _ _ _ _ _ _ _
   | exact slices_Index_string_string.mono _ _ _
   | exact LeO.none _
   | refine LeO.ite ?_ ?_
   | refine LeO.bind ?_ (fun _ => ?_))
theorem impl_ValidBlockCode.mono : ∀ a0 a1 a2 a3 k, LeO (impl_ValidBlockCode.f k a0 a1 a2 a3) (impl_ValidBlockCode.f (k + 1) a0 a1 a2 a3) := by
 intro a0 a1 a2 a3 k
 obtain ⟨ih0, ih1⟩ := impl_ValidBlockCode.mono_l k
 unfold impl_ValidBlockCode.f
 repeat' first
  | (with_reducible exact ih0 _ _ _ _ _)
  | (with_reducible exact ih1 _ _ _ _ _ _ _)
  | (with_reducible exact impl_BlockCode_areWords.mono _ _ _ _ _ _ _)
  | (with_reducible exact slices_Index_string_string.mono _ _ _)
  | (with_reducible exact LeO.refl _)
  | (with_reducible exact LeO.none _)
  | (with_reducible refine LeO.ite ?_ ?_)
  | (with_reducible refine LeO.bind ?_ (fun _ => ?_))
  | exact ih0 _ _ _ _ _
  | exact ih1 _ _ _ _ _ _ _
  | exact impl_BlockCode_areWords.mono _ _ _ _ _ _ _
  | exact slices_Index_string_string.mono _ _ _
  | exact LeO.none _
  | refine LeO.ite ?_ ?_
  | refine LeO.bind ?_ (fun _ => ?_)
set_option maxHeartbeats 8000000 in
set_option maxRecDepth 100000 in
theorem impl_ValidBlockCode.calls (k : Nat) (a0_0 : Int) (a0_1 : Int) (A0_2 : Option Addr) (c0_2 : Nat) (l0_2 : List ByteArray) (A0_3 : Option Addr) (c0_3 : Nat) (l0_3 : List ByteArray) (r : Bool) (w : World) (hr0_2 : Kd.C Kd.string w A0_2 l0_2.length l0_2) (hc0_2 : l0_2.length ≤ c0_2) (hr0_3 : Kd.C Kd.string w A0_3 l0_3.length l0_3) (hc0_3 : l0_3.length ≤ c0_3) (h : impl_ValidBlockCode.f k a0_0 a0_1 l0_2 l0_3 = some r) :
 Calls Tryz.prog 28 #[.agg #[.int .i64 a0_0, .int .i64 a0_1, .slice A0_2 l0_2.length c0_2, .slice A0_3 l0_3.length c0_3]] w fun e w' => e = .returned (.bool r) ∧ Below w.heap.size w w' := by
 have hu25 := Tryz.underlying25
 have HR0_2 := Aside0.mk hr0_2
 have HC0_2 := Aside0.mk hc0_2
 clear hr0_2 hc0_2
 have HR0_3 := Aside0.mk hr0_3
 have HC0_3 := Aside0.mk hc0_3
 clear hr0_3 hc0_3
 have HB := Aside0.mk (Below.refl w.heap.size w)
 have H : ((impl_isData.f a0_0).bind fun t169 => (if t169 = true then ((impl_isWidth.f a0_1).bind fun t170 => (if t170 = true then ((impl_BlockCode_areWords.f k a0_0 a0_1 l0_2 l0_3 l0_2 2).bind fun t171 => (if t171 = true then ((impl_BlockCode_areWords.f k a0_0 a0_1 l0_2 l0_3 l0_3 (-2)).bind fun t172 => (impl_ValidBlockCode.j0 k (!t172) a0_0 a0_1 l0_2 l0_3)) else (impl_ValidBlockCode.j0 k true a0_0 a0_1 l0_2 l0_3))) else (impl_ValidBlockCode.j0 k true a0_0 a0_1 l0_2 l0_3))) else (impl_ValidBlockCode.j0 k true a0_0 a0_1 l0_2 l0_3))) = some r := h
 clear h
 have HC2 := Aside0.mk H
 clear H
 go_enter Tryz.func28, Tryz.ntmps28
 go_upto_region 1 with (first | ((with_reducible refine gate_dst (N := 1) rfl ?_); refine box_event ?hg (N := 1) ?hd (cs := #[.int .i64 a0_0, .int .i64 a0_1, .slice A0_2 l0_2.length c0_2, .slice A0_3 l0_3.length c0_3]) (t := 25) ?hr ?_; (case hd => rfl); (case hg => rfl); (case hr => exact Qh0_); intro gb168 hg w3 hbox hb; have n0_ := Aside0.mk (below_step Qa0_ hb); have n1_ := Aside0.mk (hbox); have n2_ := Aside0.mk ((Qp1_ : w.heap.size ≤ gb168)); have n3_ := Aside0.mk ((Qp1_ : w.heap.size ≤ gb168)); clear HB; have HB := n0_; have BK168 := n1_; have GW168 := n2_; have GE168 := n3_; clear n0_ n1_ n2_ n3_; clear hb hbox hg))
 (try simp only [Act.put, List.setIfInBounds_toArray, List.set_cons_zero, List.set_cons_succ])
 go_cut [29] (fun v29 wc => ∃ (kq : Nat) (x29_1 : Bool), v29 = .bool x29_1 ∧ Aside0 (impl_ValidBlockCode.j0 kq x29_1 a0_0 a0_1 l0_2 l0_3 = some r) ∧ Aside0 (kq ≤ k) ∧ Aside0 (wc.heap[gb168]? = some (.cells #[.int .i64 a0_0, .int .i64 a0_1, (.slice A0_2 l0_2.length c0_2), (.slice A0_3 l0_3.length c0_3)] 25 (0, 0))) ∧ Aside0 (Below w.heap.size w wc))
 case first =>
  have H := HC2.out
  clear HC2
  replace H := Option.bind_eq_some_iff.mp H
  obtain ⟨t169, A40, H⟩ := H
  try dsimp only at H
  have A4 := Aside0.mk A40
  clear A40
  by_cases c5 : t169 = true
  ·subst c5
   rw [if_pos rfl] at H
   have H1 := H
   clear H
   have H := H1
   clear H1
   replace H := Option.bind_eq_some_iff.mp H
   obtain ⟨t170, A60, H⟩ := H
   try dsimp only at H
   have A6 := Aside0.mk A60
   clear A60
   by_cases c7 : t170 = true
   ·subst c7
    rw [if_pos rfl] at H
    have H1 := H
    clear H
    have H := H1
    clear H1
    replace H := Option.bind_eq_some_iff.mp H
    obtain ⟨t171, A80, H⟩ := H
    try dsimp only at H
    have A8 := Aside0.mk A80
    clear A80
    by_cases c9 : t171 = true
    ·subst c9
     rw [if_pos rfl] at H
     have H1 := H
     clear H
     have H := H1
     clear H1
     replace H := Option.bind_eq_some_iff.mp H
     obtain ⟨t172, A100, H⟩ := H
     try dsimp only at H
     have A10 := Aside0.mk A100
     clear A100
     have H' := Aside0.mk H
     clear H
     have hcz11_0 : w3.cell? ⟨gb168, 0, none⟩ = some (.int .i64 a0_0) := (blk_cell BK168.out 0).trans rfl
     have hcz11_1 : w3.cell? ⟨gb168, 1, none⟩ = some (.int .i64 a0_1) := (blk_cell BK168.out 1).trans rfl
     have hcz11_2 : w3.cell? ⟨gb168, 2, none⟩ = some (.slice A0_2 l0_2.length c0_2) := (blk_cell BK168.out 2).trans rfl
     have hcz11_3 : w3.cell? ⟨gb168, 3, none⟩ = some (.slice A0_3 l0_3.length c0_3) := (blk_cell BK168.out 3).trans rfl
     have hfz11_0 := blk_frozen BK168.out 0
     have hfz11_1 := blk_frozen BK168.out 1
     have hfz11_2 := blk_frozen BK168.out 2
     have hfz11_3 := blk_frozen BK168.out 3
     go_wp2_with (first | ((with_reducible refine gate_callee (f := 21) rfl ?_); refine goesL_ (some 8) rfl rfl Tryz.func21 Qi0_ rfl #[.int .i64 a0_0] rfl Qb0_ ?_; (with_reducible refine (impl_isData.calls a0_0 true _ A4.out).mono ?_); rintro e w' ⟨rfl, ⟨nd, rfl⟩⟩; refine ⟨_, rfl, ?_⟩) | (go_at_call 22; (with_reducible refine (impl_isWidth.calls a0_1 true _ A6.out).mono ?_); rintro e w' ⟨rfl, ⟨nd, rfl⟩⟩) | (go_at_call 68; (with_reducible refine (impl_BlockCode_areWords.calls k a0_0 a0_1 _ _ l0_2 _ _ l0_3 _ _ l0_2 2 true _ ?side1 ?side2 ?side3 ?side4 ?side5 ?side6 A8.out).mono ?_); (case side1 => exact Qd1_); (case side2 => exact HC0_2.out); (case side3 => repeat (first | exact (Kd.C_below HR0_3.out (Qg_ GE168.out)) | (with_reducible refine Kd.C_alloc ?_ _) | (with_reducible refine Kd.C_drewN ?_ _) | (with_reducible refine Kd.C_drew ?_))); (case side4 => exact HC0_3.out); (case side5 => exact Qd1_); (case side6 => exact HC0_2.out); rintro e w12 ⟨rfl, hb⟩; have n0_ := Aside0.mk (blk_below (g := gb168) (o := .cells #[.int .i64 a0_0, .int .i64 a0_1, .slice A0_2 l0_2.length c0_2, .slice A0_3 l0_3.length c0_3] 25 (0, 0)) (Qk_ BK168.out) hb); have n1_ := Aside0.mk (below_step (Qg_ GE168.out) hb); clear BK168; clear HB; have BK168 := n0_; have HB := n1_; clear n0_ n1_; (try clear hb); (try clear hb2); (try clear hk); (try clear hi); have hcz13_0 : w12.cell? ⟨gb168, 0, none⟩ = some (.int .i64 a0_0) := (blk_cell BK168.out 0).trans rfl; have hcz13_1 : w12.cell? ⟨gb168, 1, none⟩ = some (.int .i64 a0_1) := (blk_cell BK168.out 1).trans rfl; have hcz13_2 : w12.cell? ⟨gb168, 2, none⟩ = some (.slice A0_2 l0_2.length c0_2) := (blk_cell BK168.out 2).trans rfl; have hcz13_3 : w12.cell? ⟨gb168, 3, none⟩ = some (.slice A0_3 l0_3.length c0_3) := (blk_cell BK168.out 3).trans rfl; have hfz13_0 := blk_frozen BK168.out 0; have hfz13_1 := blk_frozen BK168.out 1; have hfz13_2 := blk_frozen BK168.out 2; have hfz13_3 := blk_frozen BK168.out 3) | (go_at_call 68; (with_reducible refine (impl_BlockCode_areWords.calls k a0_0 a0_1 _ _ l0_2 _ _ l0_3 _ _ l0_3 (-2) t172 _ ?side1 ?side2 ?side3 ?side4 ?side5 ?side6 A10.out).mono ?_); (case side1 => repeat (first | exact (Kd.C_below HR0_2.out HB.out) | (with_reducible refine Kd.C_alloc ?_ _) | (with_reducible refine Kd.C_drewN ?_ _) | (with_reducible refine Kd.C_drew ?_))); (case side2 => exact HC0_2.out); (case side3 => exact Qx0_); (case side4 => exact HC0_3.out); (case side5 => exact Qx0_); (case side6 => exact HC0_3.out); rintro e w14 ⟨rfl, hb⟩; have n0_ := Aside0.mk (blk_below (g := gb168) (o := .cells #[.int .i64 a0_0, .int .i64 a0_1, .slice A0_2 l0_2.length c0_2, .slice A0_3 l0_3.length c0_3] 25 (0, 0)) (Qk_ BK168.out) hb); have n1_ := Aside0.mk (below_step (Qg_ GE168.out) hb); clear BK168; clear HB; have BK168 := n0_; have HB := n1_; clear n0_ n1_; (try clear hb); (try clear hb2); (try clear hk); (try clear hi)))
     go_meet
     case rel => exact ⟨_, (!t172), Qc0_, H', ⟨Qa1_⟩, ⟨Qk_ BK168.out⟩, ⟨Qg_ GE168.out⟩⟩
    ·replace c9 := Bool.eq_false_iff.mpr c9
     subst c9
     rw [if_neg (show ¬ (false = true) by decide)] at H
     have H1 := H
     clear H
     have H := H1
     clear H1
     have H' := Aside0.mk H
     clear H
     have hcz15_0 : w3.cell? ⟨gb168, 0, none⟩ = some (.int .i64 a0_0) := (blk_cell BK168.out 0).trans rfl
     have hcz15_1 : w3.cell? ⟨gb168, 1, none⟩ = some (.int .i64 a0_1) := (blk_cell BK168.out 1).trans rfl
     have hcz15_2 : w3.cell? ⟨gb168, 2, none⟩ = some (.slice A0_2 l0_2.length c0_2) := (blk_cell BK168.out 2).trans rfl
     have hcz15_3 : w3.cell? ⟨gb168, 3, none⟩ = some (.slice A0_3 l0_3.length c0_3) := (blk_cell BK168.out 3).trans rfl
     have hfz15_0 := blk_frozen BK168.out 0
     have hfz15_1 := blk_frozen BK168.out 1
     have hfz15_2 := blk_frozen BK168.out 2
     have hfz15_3 := blk_frozen BK168.out 3
     go_wp2_with (first | ((with_reducible refine gate_callee (f := 21) rfl ?_); refine goesL_ (some 8) rfl rfl Tryz.func21 Qi0_ rfl #[.int .i64 a0_0] rfl Qb0_ ?_; (with_reducible refine (impl_isData.calls a0_0 true _ A4.out).mono ?_); rintro e w' ⟨rfl, ⟨nd, rfl⟩⟩; refine ⟨_, rfl, ?_⟩) | (go_at_call 22; (with_reducible refine (impl_isWidth.calls a0_1 true _ A6.out).mono ?_); rintro e w' ⟨rfl, ⟨nd, rfl⟩⟩) | (go_at_call 68; (with_reducible refine (impl_BlockCode_areWords.calls k a0_0 a0_1 _ _ l0_2 _ _ l0_3 _ _ l0_2 2 false _ ?side1 ?side2 ?side3 ?side4 ?side5 ?side6 A8.out).mono ?_); (case side1 => exact Qd1_); (case side2 => exact HC0_2.out); (case side3 => repeat (first | exact (Kd.C_below HR0_3.out (Qg_ GE168.out)) | (with_reducible refine Kd.C_alloc ?_ _) | (with_reducible refine Kd.C_drewN ?_ _) | (with_reducible refine Kd.C_drew ?_))); (case side4 => exact HC0_3.out); (case side5 => exact Qd1_); (case side6 => exact HC0_2.out); rintro e w16 ⟨rfl, hb⟩; have n0_ := Aside0.mk (blk_below (g := gb168) (o := .cells #[.int .i64 a0_0, .int .i64 a0_1, .slice A0_2 l0_2.length c0_2, .slice A0_3 l0_3.length c0_3] 25 (0, 0)) (Qk_ BK168.out) hb); have n1_ := Aside0.mk (below_step (Qg_ GE168.out) hb); clear BK168; clear HB; have BK168 := n0_; have HB := n1_; clear n0_ n1_; (try clear hb); (try clear hb2); (try clear hk); (try clear hi)))
     go_meet
     case rel => exact ⟨_, (true), Qc0_, H', ⟨Qa1_⟩, ⟨Qk_ BK168.out⟩, ⟨Qg_ GE168.out⟩⟩
   ·replace c7 := Bool.eq_false_iff.mpr c7
    subst c7
    rw [if_neg (show ¬ (false = true) by decide)] at H
    have H1 := H
    clear H
    have H := H1
    clear H1
    have H' := Aside0.mk H
    clear H
    have hcz17_0 : w3.cell? ⟨gb168, 0, none⟩ = some (.int .i64 a0_0) := (blk_cell BK168.out 0).trans rfl
    have hcz17_1 : w3.cell? ⟨gb168, 1, none⟩ = some (.int .i64 a0_1) := (blk_cell BK168.out 1).trans rfl
    have hcz17_2 : w3.cell? ⟨gb168, 2, none⟩ = some (.slice A0_2 l0_2.length c0_2) := (blk_cell BK168.out 2).trans rfl
    have hcz17_3 : w3.cell? ⟨gb168, 3, none⟩ = some (.slice A0_3 l0_3.length c0_3) := (blk_cell BK168.out 3).trans rfl
    have hfz17_0 := blk_frozen BK168.out 0
    have hfz17_1 := blk_frozen BK168.out 1
    have hfz17_2 := blk_frozen BK168.out 2
    have hfz17_3 := blk_frozen BK168.out 3
    go_wp2_with (first | ((with_reducible refine gate_callee (f := 21) rfl ?_); refine goesL_ (some 8) rfl rfl Tryz.func21 Qi0_ rfl #[.int .i64 a0_0] rfl Qb0_ ?_; (with_reducible refine (impl_isData.calls a0_0 true _ A4.out).mono ?_); rintro e w' ⟨rfl, ⟨nd, rfl⟩⟩; refine ⟨_, rfl, ?_⟩) | (go_at_call 22; (with_reducible refine (impl_isWidth.calls a0_1 false _ A6.out).mono ?_); rintro e w' ⟨rfl, ⟨nd, rfl⟩⟩))
    go_meet
    case rel => exact ⟨_, (true), Qc0_, H', ⟨Qa1_⟩, ⟨Qk_ BK168.out⟩, ⟨Qg_ GE168.out⟩⟩
  ·replace c5 := Bool.eq_false_iff.mpr c5
   subst c5
   rw [if_neg (show ¬ (false = true) by decide)] at H
   have H1 := H
   clear H
   have H := H1
   clear H1
   have H' := Aside0.mk H
   clear H
   have hcz18_0 : w3.cell? ⟨gb168, 0, none⟩ = some (.int .i64 a0_0) := (blk_cell BK168.out 0).trans rfl
   have hcz18_1 : w3.cell? ⟨gb168, 1, none⟩ = some (.int .i64 a0_1) := (blk_cell BK168.out 1).trans rfl
   have hcz18_2 : w3.cell? ⟨gb168, 2, none⟩ = some (.slice A0_2 l0_2.length c0_2) := (blk_cell BK168.out 2).trans rfl
   have hcz18_3 : w3.cell? ⟨gb168, 3, none⟩ = some (.slice A0_3 l0_3.length c0_3) := (blk_cell BK168.out 3).trans rfl
   have hfz18_0 := blk_frozen BK168.out 0
   have hfz18_1 := blk_frozen BK168.out 1
   have hfz18_2 := blk_frozen BK168.out 2
   have hfz18_3 := blk_frozen BK168.out 3
   go_wp2_with (first | ((with_reducible refine gate_callee (f := 21) rfl ?_); refine goesL_ (some 8) rfl rfl Tryz.func21 Qi0_ rfl #[.int .i64 a0_0] rfl Qb0_ ?_; (with_reducible refine (impl_isData.calls a0_0 false _ A4.out).mono ?_); rintro e w' ⟨rfl, ⟨nd, rfl⟩⟩; refine ⟨_, rfl, ?_⟩))
   go_meet
   case rel => exact ⟨_, (true), Qc0_, H', ⟨Qa1_⟩, ⟨Qk_ BK168.out⟩, ⟨Qg_ GE168.out⟩⟩
 case rest =>
  clear HC2
  try clear c2
  try clear p2
  try clear c5
  try clear c7
  try clear c9
  try clear hcz11_0
  try clear hcz11_1
  try clear hcz11_2
  try clear hcz11_3
  try clear hcz13_0
  try clear hcz13_1
  try clear hcz13_2
  try clear hcz13_3
  try clear hcz15_0
  try clear hcz15_1
  try clear hcz15_2
  try clear hcz15_3
  try clear hcz17_0
  try clear hcz17_1
  try clear hcz17_2
  try clear hcz17_3
  try clear hcz18_0
  try clear hcz18_1
  try clear hcz18_2
  try clear hcz18_3
  try clear hfz11_0
  try clear hfz11_1
  try clear hfz11_2
  try clear hfz11_3
  try clear hfz13_0
  try clear hfz13_1
  try clear hfz13_2
  try clear hfz13_3
  try clear hfz15_0
  try clear hfz15_1
  try clear hfz15_2
  try clear hfz15_3
  try clear hfz17_0
  try clear hfz17_1
  try clear hfz17_2
  try clear hfz17_3
  try clear hfz18_0
  try clear hfz18_1
  try clear hfz18_2
  try clear hfz18_3
  obtain ⟨kq, x29_1, rfl, HA, HJ1, BK168, HB⟩ := hcut
  cases kq with
  | zero => exact absurd HA.out (by simp [impl_ValidBlockCode.j0])
  | succ kj1 =>
   have H := HA.out
   clear HA
   simp only [impl_ValidBlockCode.j0] at H
   by_cases c19 : x29_1 = true
   ·subst c19
    rw [if_pos rfl] at H
    have H1 := H
    clear H
    have H := H1
    clear H1
    obtain rfl := Option.some.inj H
    go_wp2
    go_ret
    exact ⟨Qe0_, Qg_ GE168.out⟩
   ·replace c19 := Bool.eq_false_iff.mpr c19
    subst c19
    rw [if_neg (show ¬ (false = true) by decide)] at H
    have H1 := H
    clear H
    have H := H1
    clear H1
    have H' := Aside0.mk H
    clear H
    have hcz20_0 : wc.cell? ⟨gb168, 0, none⟩ = some (.int .i64 a0_0) := (blk_cell BK168.out 0).trans rfl
    have hcz20_1 : wc.cell? ⟨gb168, 1, none⟩ = some (.int .i64 a0_1) := (blk_cell BK168.out 1).trans rfl
    have hcz20_2 : wc.cell? ⟨gb168, 2, none⟩ = some (.slice A0_2 l0_2.length c0_2) := (blk_cell BK168.out 2).trans rfl
    have hcz20_3 : wc.cell? ⟨gb168, 3, none⟩ = some (.slice A0_3 l0_3.length c0_3) := (blk_cell BK168.out 3).trans rfl
    have hfz20_0 := blk_frozen BK168.out 0
    have hfz20_1 := blk_frozen BK168.out 1
    have hfz20_2 := blk_frozen BK168.out 2
    have hfz20_3 := blk_frozen BK168.out 3
    go_wp2
    go_loopg [33] kj1 (fun kq v33 w' => ∃ (x33_2 : Int), v33 = .int .i64 x33_2 ∧ Aside0 (impl_ValidBlockCode.l0 kq l0_2 (l0_2.length : Int) x33_2 a0_0 a0_1 l0_2 l0_3 = some r) ∧ Aside0 (kq ≤ kj1) ∧ Aside0 (w'.heap[gb168]? = some (.cells #[.int .i64 a0_0, .int .i64 a0_1, (.slice A0_2 l0_2.length c0_2), (.slice A0_3 l0_3.length c0_3)] 25 (0, 0))) ∧ Aside0 (Below w.heap.size w w'))
    case atStart => exact ⟨(0), Qc0_, H', ⟨Nat.le_refl _⟩, ⟨Qk_ BK168.out⟩, ⟨Qg_ GE168.out⟩⟩
    case round =>
     clear H'
     try clear c1
     try clear c2
     try clear p2
     try clear c5
     try clear c7
     try clear c9
     try clear c19
     try clear hcz11_0
     try clear hcz11_1
     try clear hcz11_2
     try clear hcz11_3
     try clear hcz13_0
     try clear hcz13_1
     try clear hcz13_2
     try clear hcz13_3
     try clear hcz15_0
     try clear hcz15_1
     try clear hcz15_2
     try clear hcz15_3
     try clear hcz17_0
     try clear hcz17_1
     try clear hcz17_2
     try clear hcz17_3
     try clear hcz18_0
     try clear hcz18_1
     try clear hcz18_2
     try clear hcz18_3
     try clear hcz20_0
     try clear hcz20_1
     try clear hcz20_2
     try clear hcz20_3
     try clear hfz11_0
     try clear hfz11_1
     try clear hfz11_2
     try clear hfz11_3
     try clear hfz13_0
     try clear hfz13_1
     try clear hfz13_2
     try clear hfz13_3
     try clear hfz15_0
     try clear hfz15_1
     try clear hfz15_2
     try clear hfz15_3
     try clear hfz17_0
     try clear hfz17_1
     try clear hfz17_2
     try clear hfz17_3
     try clear hfz18_0
     try clear hfz18_1
     try clear hfz18_2
     try clear hfz18_3
     try clear hfz20_0
     try clear hfz20_1
     try clear hfz20_2
     try clear hfz20_3
     try clear p2
     obtain ⟨x33_2, rfl, HA, HK2, BK168, HB⟩ := hrel
     cases gk with
     | zero => exact absurd HA.out (by simp [impl_ValidBlockCode.l0])
     | succ k2 =>
      have H := HA.out
      clear HA
      simp only [impl_ValidBlockCode.l0] at H
      by_cases c21 : x33_2 < (l0_2.length : Int)
      ·rw [if_pos c21] at H
       have c21b0 := decide_eq_true c21
       clear c21
       by_cases c22 : 0 ≤ x33_2
       ·rw [if_pos c22] at H
        have c22b0 := decide_eq_true c22
        clear c22
        by_cases c23 : x33_2 < (l0_2.length : Int)
        ·rw [if_pos c23] at H
         have c23b0 := decide_eq_true c23
         clear c23
         replace H := Option.bind_eq_some_iff.mp H
         obtain ⟨t174, A240, H⟩ := H
         try dsimp only at H
         have A24 := Aside0.mk A240
         clear A240
         by_cases c25 : t174 ≥ 0
         ·rw [if_pos c25] at H
          have c25b0 := decide_eq_true c25
          clear c25
          by_cases c26 : t174 = x33_2
          ·rw [if_pos c26] at H
           have c26b0 := beq_iff_eq.mpr c26
           have c26b1 := bne_eq_false_iff_eq.mpr c26
           clear c26
           have H' := Aside0.mk H
           clear H
           have p173 : 0 ≤ (x33_2 : Int) := of_decide_eq_true Qf0_
           have q173 : x33_2 < (l0_2.length : Int) := of_decide_eq_true Qf0_
           obtain ⟨ad173, e173, hx173_0⟩ := Kd.at_string HR0_2.out x33_2 p173 q173
           cases e173
           replace hx173_0 := (HB.out.cell (World.block_lt_of_cell? w _ hx173_0)).trans hx173_0
           replace p173 := eq_true p173
           replace q173 := eq_true q173
           have hcz27_0 : wr.cell? ⟨gb168, 0, none⟩ = some (.int .i64 a0_0) := (blk_cell BK168.out 0).trans rfl
           have hcz27_1 : wr.cell? ⟨gb168, 1, none⟩ = some (.int .i64 a0_1) := (blk_cell BK168.out 1).trans rfl
           have hcz27_2 : wr.cell? ⟨gb168, 2, none⟩ = some (.slice (some ad173) l0_2.length c0_2) := (blk_cell BK168.out 2).trans rfl
           have hcz27_3 : wr.cell? ⟨gb168, 3, none⟩ = some (.slice A0_3 l0_3.length c0_3) := (blk_cell BK168.out 3).trans rfl
           have hfz27_0 := blk_frozen BK168.out 0
           have hfz27_1 := blk_frozen BK168.out 1
           have hfz27_2 := blk_frozen BK168.out 2
           have hfz27_3 := blk_frozen BK168.out 3
           go_wp2_with (first | ((with_reducible refine gate_callee (f := 69) rfl ?_); refine goesL_ (some 41) rfl rfl Tryz.func69 Qi0_ rfl #[.slice A0_3 l0_3.length c0_3, .string (rdOf ByteArray.empty l0_2 x33_2)] rfl Qb0_ ?_; (with_reducible refine (slices_Index_string_string.calls k2 _ _ l0_3 (rdOf ByteArray.empty l0_2 x33_2) t174 _ ?side1 ?side2 A24.out).mono ?_); (case side1 => exact Qx0_); (case side2 => exact HC0_3.out); rintro e w' ⟨rfl, ⟨nd, rfl⟩⟩; refine ⟨_, rfl, ?_⟩))
           go_roundg k2
           case measure => have := HJ1.out; have := HK2.out; omega
           case rel => exact ⟨(wrap64 (x33_2 + 1)), Qc0_, H', ⟨by have := HJ1.out; have := HK2.out; omega⟩, ⟨Qk_ BK168.out⟩, ⟨Qg_ GE168.out⟩⟩
          ·rw [if_neg c26] at H
           have c26b0 := beq_eq_false_iff_ne.mpr c26
           have c26b1 := bne_iff_ne.mpr c26
           obtain rfl := Option.some.inj H
           have p173 : 0 ≤ (x33_2 : Int) := of_decide_eq_true Qf0_
           have q173 : x33_2 < (l0_2.length : Int) := of_decide_eq_true Qf0_
           obtain ⟨ad173, e173, hx173_0⟩ := Kd.at_string HR0_2.out x33_2 p173 q173
           cases e173
           replace hx173_0 := (HB.out.cell (World.block_lt_of_cell? w _ hx173_0)).trans hx173_0
           replace p173 := eq_true p173
           replace q173 := eq_true q173
           have hcz28_0 : wr.cell? ⟨gb168, 0, none⟩ = some (.int .i64 a0_0) := (blk_cell BK168.out 0).trans rfl
           have hcz28_1 : wr.cell? ⟨gb168, 1, none⟩ = some (.int .i64 a0_1) := (blk_cell BK168.out 1).trans rfl
           have hcz28_2 : wr.cell? ⟨gb168, 2, none⟩ = some (.slice (some ad173) l0_2.length c0_2) := (blk_cell BK168.out 2).trans rfl
           have hcz28_3 : wr.cell? ⟨gb168, 3, none⟩ = some (.slice A0_3 l0_3.length c0_3) := (blk_cell BK168.out 3).trans rfl
           have hfz28_0 := blk_frozen BK168.out 0
           have hfz28_1 := blk_frozen BK168.out 1
           have hfz28_2 := blk_frozen BK168.out 2
           have hfz28_3 := blk_frozen BK168.out 3
           go_wp2_with (first | ((with_reducible refine gate_callee (f := 69) rfl ?_); refine goesL_ (some 41) rfl rfl Tryz.func69 Qi0_ rfl #[.slice A0_3 l0_3.length c0_3, .string (rdOf ByteArray.empty l0_2 x33_2)] rfl Qb0_ ?_; (with_reducible refine (slices_Index_string_string.calls k2 _ _ l0_3 (rdOf ByteArray.empty l0_2 x33_2) t174 _ ?side1 ?side2 A24.out).mono ?_); (case side1 => exact Qx0_); (case side2 => exact HC0_3.out); rintro e w' ⟨rfl, ⟨nd, rfl⟩⟩; refine ⟨_, rfl, ?_⟩))
           go_ret
           exact ⟨Qe0_, Qg_ GE168.out⟩
         ·rw [if_neg c25] at H
          have c25b0 := decide_eq_false c25
          clear c25
          have H' := Aside0.mk H
          clear H
          have p173 : 0 ≤ (x33_2 : Int) := of_decide_eq_true Qf0_
          have q173 : x33_2 < (l0_2.length : Int) := of_decide_eq_true Qf0_
          obtain ⟨ad173, e173, hx173_0⟩ := Kd.at_string HR0_2.out x33_2 p173 q173
          cases e173
          replace hx173_0 := (HB.out.cell (World.block_lt_of_cell? w _ hx173_0)).trans hx173_0
          replace p173 := eq_true p173
          replace q173 := eq_true q173
          have hcz29_0 : wr.cell? ⟨gb168, 0, none⟩ = some (.int .i64 a0_0) := (blk_cell BK168.out 0).trans rfl
          have hcz29_1 : wr.cell? ⟨gb168, 1, none⟩ = some (.int .i64 a0_1) := (blk_cell BK168.out 1).trans rfl
          have hcz29_2 : wr.cell? ⟨gb168, 2, none⟩ = some (.slice (some ad173) l0_2.length c0_2) := (blk_cell BK168.out 2).trans rfl
          have hcz29_3 : wr.cell? ⟨gb168, 3, none⟩ = some (.slice A0_3 l0_3.length c0_3) := (blk_cell BK168.out 3).trans rfl
          have hfz29_0 := blk_frozen BK168.out 0
          have hfz29_1 := blk_frozen BK168.out 1
          have hfz29_2 := blk_frozen BK168.out 2
          have hfz29_3 := blk_frozen BK168.out 3
          go_wp2_with (first | ((with_reducible refine gate_callee (f := 69) rfl ?_); refine goesL_ (some 41) rfl rfl Tryz.func69 Qi0_ rfl #[.slice A0_3 l0_3.length c0_3, .string (rdOf ByteArray.empty l0_2 x33_2)] rfl Qb0_ ?_; (with_reducible refine (slices_Index_string_string.calls k2 _ _ l0_3 (rdOf ByteArray.empty l0_2 x33_2) t174 _ ?side1 ?side2 A24.out).mono ?_); (case side1 => exact Qx0_); (case side2 => exact HC0_3.out); rintro e w' ⟨rfl, ⟨nd, rfl⟩⟩; refine ⟨_, rfl, ?_⟩))
          go_roundg k2
          case measure => have := HJ1.out; have := HK2.out; omega
          case rel => exact ⟨(wrap64 (x33_2 + 1)), Qc0_, H', ⟨by have := HJ1.out; have := HK2.out; omega⟩, ⟨Qk_ BK168.out⟩, ⟨Qg_ GE168.out⟩⟩
        ·rw [if_neg c23] at H
         exact absurd H (by simp)
       ·rw [if_neg c22] at H
        exact absurd H (by simp)
      ·rw [if_neg c21] at H
       have c21b0 := decide_eq_false c21
       clear c21
       obtain rfl := Option.some.inj H
       go_wp2
       go_ret
       exact ⟨Qe0_, Qg_ GE168.out⟩
def impl_isLineState.f (a0 : Int) : Option (Bool) := if a0 = (-1) then (some true) else (some (a0 == 1))
set_option maxHeartbeats 8000000 in
set_option maxRecDepth 100000 in
theorem impl_isLineState.calls (a0 : Int) (r : Bool) (w : World) (h : impl_isLineState.f a0 = some r) :
 Calls Tryz.prog 29 #[.int .i64 a0] w fun e w' => e = .returned (.bool r) ∧ Drawn0 w w' := by
 have H : (if a0 = (-1) then (some true) else (some (a0 == 1))) = some r := h
 clear h
 by_cases c2 : a0 = (-1)
 ·rw [if_pos c2] at H
  have c2b0 := beq_iff_eq.mpr c2
  have c2b1 := bne_eq_false_iff_eq.mpr c2
  clear c2
  obtain rfl := Option.some.inj H
  go_enter Tryz.func29, Tryz.ntmps29
  go_wp2
  go_ret
  exact ⟨Qc0_, Qd0_⟩
 ·rw [if_neg c2] at H
  have c2b0 := beq_eq_false_iff_ne.mpr c2
  have c2b1 := bne_iff_ne.mpr c2
  obtain rfl := Option.some.inj H
  go_enter Tryz.func29, Tryz.ntmps29
  go_wp2
  go_ret
  exact ⟨Qc0_, Qd0_⟩
def impl_stateBehind.f (a0 : Int) (a1 : ByteArray) : Option (Int) := (impl_disparity.f a1).bind fun t175 => (if t175 > 0 then (some 1) else (if t175 < 0 then (some (-1)) else (some a0)))
set_option maxHeartbeats 8000000 in
set_option maxRecDepth 100000 in
theorem impl_stateBehind.calls (a0 : Int) (a1 : ByteArray) (r : Int) (w : World) (h : impl_stateBehind.f a0 a1 = some r) :
 Calls Tryz.prog 31 #[.int .i64 a0, .string a1] w fun e w' => e = .returned (.int .i64 r) ∧ Drawn0 w w' := by
 have H : ((impl_disparity.f a1).bind fun t175 => (if t175 > 0 then (some 1) else (if t175 < 0 then (some (-1)) else (some a0)))) = some r := h
 clear h
 replace H := Option.bind_eq_some_iff.mp H
 obtain ⟨t175, A30, H⟩ := H
 try dsimp only at H
 have A3 := Aside0.mk A30
 clear A30
 by_cases c4 : t175 > 0
 ·rw [if_pos c4] at H
  have c4b0 := decide_eq_true c4
  clear c4
  obtain rfl := Option.some.inj H
  go_enter Tryz.func31, Tryz.ntmps31
  go_wp2_with (first | ((with_reducible refine gate_callee (f := 65) rfl ?_); refine goesL_ (some 7) rfl rfl Tryz.func65 Qi0_ rfl #[.string a1] rfl Qb0_ ?_; (with_reducible refine (impl_disparity.calls a1 t175 _ A3.out).mono ?_); rintro e w' ⟨rfl, ⟨nd, rfl⟩⟩; refine ⟨_, rfl, ?_⟩))
  go_ret
  exact ⟨Qc0_, Qd0_⟩
 ·rw [if_neg c4] at H
  have c4b0 := decide_eq_false c4
  clear c4
  by_cases c5 : t175 < 0
  ·rw [if_pos c5] at H
   have c5b0 := decide_eq_true c5
   clear c5
   obtain rfl := Option.some.inj H
   go_enter Tryz.func31, Tryz.ntmps31
   go_wp2_with (first | ((with_reducible refine gate_callee (f := 65) rfl ?_); refine goesL_ (some 7) rfl rfl Tryz.func65 Qi0_ rfl #[.string a1] rfl Qb0_ ?_; (with_reducible refine (impl_disparity.calls a1 t175 _ A3.out).mono ?_); rintro e w' ⟨rfl, ⟨nd, rfl⟩⟩; refine ⟨_, rfl, ?_⟩))
   go_ret
   exact ⟨Qc0_, Qd0_⟩
  ·rw [if_neg c5] at H
   have c5b0 := decide_eq_false c5
   clear c5
   obtain rfl := Option.some.inj H
   go_enter Tryz.func31, Tryz.ntmps31
   go_wp2_with (first | ((with_reducible refine gate_callee (f := 65) rfl ?_); refine goesL_ (some 7) rfl rfl Tryz.func65 Qi0_ rfl #[.string a1] rfl Qb0_ ?_; (with_reducible refine (impl_disparity.calls a1 t175 _ A3.out).mono ?_); rintro e w' ⟨rfl, ⟨nd, rfl⟩⟩; refine ⟨_, rfl, ?_⟩))
   go_ret
   exact ⟨Qc0_, Qd0_⟩
def EbI (w w' : World) (gb : Nat) (cs : Array Value) : Prop := w'.heap[gb]? = some (.cells cs 25 (0, 0)) ∧ Below w.heap.size w w'
theorem EbI.below {w w1 w2 : World} {gb : Nat} {cs : Array Value} (h : EbI w w1 gb cs) (hB : Below w1.heap.size w1 w2) : EbI w w2 gb cs := ⟨(hB.block gb (blk_lt h.1)).trans h.1, below_step h.2 hB⟩
theorem EbI.drewN {w w1 : World} {gb : Nat} {cs : Array Value} (h : EbI w w1 gb cs) (n : Nat) : EbI w (w1.drewN n) gb cs := ⟨h.1, pw_below_drewN h.2 n⟩
set_option maxHeartbeats 8000000 in
set_option maxRecDepth 100000 in
theorem bw_minus (a b : Int) (v2 v3 : Value) (st : Int) (w : World) (h : st < 0) (h2 : v2.cells = #[v2]) (h3 : v3.cells = #[v3]) :
 Calls Tryz.prog 30 #[.agg #[.int .i64 a, .int .i64 b, v2, v3], .int .i64 st] w fun e w' => e = .returned (.tuple #[v2, v3]) ∧ Below w.heap.size w w' := by
 have hu66 := Tryz.underlying25
 have HB := Aside0.mk (Below.refl w.heap.size w)
 have c1b0 := decide_eq_true h
 clear h
 go_enter Tryz.func30, Tryz.ntmps30
 go_wp2_with (first | ((with_reducible refine gate_dst (N := 2) rfl ?_); (try (refine gate_guard (by rfl) ?_; dsimp only)); refine box_event ?hg (N := 2) ?hd (cs := #[.int .i64 a, .int .i64 b, v2, v3]) (t := 25) ?hr ?_; (case hd => rfl); (case hg => rfl); (case hr => exact Qh0_); intro gb hggb w_ hbox hb; have n0_ := Aside0.mk (below_step Qa0_ hb); have n1_ := Aside0.mk (hbox); clear HB; have HB := n0_; have BKgb := n1_; clear n0_ n1_; clear hb hbox hggb; have hczgb2 : w_.cell? ⟨gb, 2, none⟩ = some (v2) := (blk_cell BKgb.out 2).trans rfl; have hczgb3 : w_.cell? ⟨gb, 3, none⟩ = some (v3) := (blk_cell BKgb.out 3).trans rfl))
 go_quiet (fail)
 go_wp2
 go_ret2
 exact ⟨Qc0_, Qa0_⟩
set_option maxHeartbeats 8000000 in
set_option maxRecDepth 100000 in
theorem bw_plus (a b : Int) (v2 v3 : Value) (st : Int) (w : World) (h : ¬ st < 0) (h2 : v2.cells = #[v2]) (h3 : v3.cells = #[v3]) :
 Calls Tryz.prog 30 #[.agg #[.int .i64 a, .int .i64 b, v2, v3], .int .i64 st] w fun e w' => e = .returned (.tuple #[v3, v2]) ∧ Below w.heap.size w w' := by
 have hu66 := Tryz.underlying25
 have HB := Aside0.mk (Below.refl w.heap.size w)
 have c1b0 := decide_eq_false h
 clear h
 go_enter Tryz.func30, Tryz.ntmps30
 go_wp2_with (first | ((with_reducible refine gate_dst (N := 2) rfl ?_); (try (refine gate_guard (by rfl) ?_; dsimp only)); refine box_event ?hg (N := 2) ?hd (cs := #[.int .i64 a, .int .i64 b, v2, v3]) (t := 25) ?hr ?_; (case hd => rfl); (case hg => rfl); (case hr => exact Qh0_); intro gb hggb w_ hbox hb; have n0_ := Aside0.mk (below_step Qa0_ hb); have n1_ := Aside0.mk (hbox); clear HB; have HB := n0_; have BKgb := n1_; clear n0_ n1_; clear hb hbox hggb; have hczgb2 : w_.cell? ⟨gb, 2, none⟩ = some (v2) := (blk_cell BKgb.out 2).trans rfl; have hczgb3 : w_.cell? ⟨gb, 3, none⟩ = some (v3) := (blk_cell BKgb.out 3).trans rfl))
 go_quiet (fail)
 go_wp2
 go_ret2
 exact ⟨Qc0_, Qa0_⟩
def impl_EncodeBlocks.l0 : Nat → List ByteArray → List ByteArray → List Int → ByteArray → Int → Int → Option (ByteArray × Int × Bool)
 | 0, _, _, _, _, _, _ => none
 | k + 1, mi, pl, ds, out, st, i => if i < (ds.length : Int) then (if 0 ≤ i then (if 0 ≤ (rd ds i) then (if (rd ds i) < ((if st < 0 then mi else pl).length : Int) then (if out.size ≤ 100000 ∧ (rdOf ByteArray.empty (if st < 0 then mi else pl) (rd ds i)).size ≤ 100000 then ((impl_stateBehind.f st (rdOf ByteArray.empty (if st < 0 then mi else pl) (rd ds i))).bind fun t => (impl_EncodeBlocks.l0 k mi pl ds (out ++ (rdOf ByteArray.empty (if st < 0 then mi else pl) (rd ds i))) t (wrap64 (i + 1)))) else (none)) else (none)) else (none)) else (none)) else (some (out, st, true))
def impl_EncodeBlocks.f (k : Nat) (a0_0 a0_1 : Int) (l0_2 l0_3 : List ByteArray) (a1 : Int) (l2 : List Int) : Option (ByteArray × Int × Bool) := (impl_ValidBlockCode.f k a0_0 a0_1 l0_2 l0_3).bind fun t1 => (if t1 = true then (if 0 ≤ a0_0 ∧ a0_0 ≤ 60 ∧ 1 ≤ a0_1 ∧ a0_1 ≤ 1000 then ((impl_isLineState.f a1).bind fun t2 => (if t2 = true then ((impl_areIn.f k l2 0 (wrap64 ((shl .i64 1 a0_0) - 1))).bind fun t3 => (if t3 = true then (if (l2.length : Int) > 400 / a0_1 then (some ((⟨#[]⟩ : ByteArray), 0, false)) else (impl_EncodeBlocks.l0 k l0_2 l0_3 l2 (⟨#[]⟩ : ByteArray) a1 0)) else (some ((⟨#[]⟩ : ByteArray), 0, false)))) else (some ((⟨#[]⟩ : ByteArray), 0, false)))) else none) else (some ((⟨#[]⟩ : ByteArray), 0, false)))
set_option maxHeartbeats 8000000 in
set_option maxRecDepth 100000 in
theorem impl_EncodeBlocks.calls (k : Nat) (a0_0 : Int) (a0_1 : Int) (A0_2 : Option Addr) (c0_2 : Nat) (l0_2 : List ByteArray) (A0_3 : Option Addr) (c0_3 : Nat) (l0_3 : List ByteArray) (a1 : Int) (A2 : Option Addr) (c2 : Nat) (l2 : List Int) (r1 : ByteArray) (r2 : Int) (r3 : Bool) (w : World) (hr0_2 : Kd.C Kd.string w A0_2 l0_2.length l0_2) (hc0_2 : l0_2.length ≤ c0_2) (hr0_3 : Kd.C Kd.string w A0_3 l0_3.length l0_3) (hc0_3 : l0_3.length ≤ c0_3) (hr2 : Kd.C (Kd.int .i64) w A2 l2.length l2) (hc2 : l2.length ≤ c2) (h : impl_EncodeBlocks.f k a0_0 a0_1 l0_2 l0_3 a1 l2 = some (r1, r2, r3)) :
 Calls Tryz.prog 6 #[.agg #[.int .i64 a0_0, .int .i64 a0_1, .slice A0_2 l0_2.length c0_2, .slice A0_3 l0_3.length c0_3], .int .i64 a1, .slice A2 l2.length c2] w fun e w' => e = .returned (.tuple #[.string r1, .int .i64 r2, .bool r3]) ∧ Below w.heap.size w w' := by
 have hu66 := Tryz.underlying25
 have HR0_2 := Aside0.mk hr0_2
 have HC0_2 := Aside0.mk hc0_2
 have HR0_3 := Aside0.mk hr0_3
 have HC0_3 := Aside0.mk hc0_3
 have HR2 := Aside0.mk hr2
 have HC2 := Aside0.mk hc2
 have HB := Aside0.mk (Below.refl w.heap.size w)
 clear hr0_2 hc0_2 hr0_3 hc0_3 hr2 hc2
 unfold impl_EncodeBlocks.f at h
 obtain ⟨t1, A1, h⟩ := Option.bind_eq_some_iff.mp h
 have A1_ := Aside0.mk A1
 clear A1
 cases t1 with
 | false =>
  replace h : some ((⟨#[]⟩ : ByteArray), (0 : Int), false) = some (r1, r2, r3) := h
  simp only [Option.some.injEq, Prod.mk.injEq] at h
  obtain ⟨rfl, rfl, rfl⟩ := h
  go_enter Tryz.func6, Tryz.ntmps6
  go_wp2_with (first | ((with_reducible refine gate_dst (N := 3) rfl ?_); (try (refine gate_guard (by rfl) ?_; dsimp only)); refine box_event ?hg (N := 3) ?hd (cs := #[.int .i64 a0_0, .int .i64 a0_1, .slice A0_2 l0_2.length c0_2, .slice A0_3 l0_3.length c0_3]) (t := 25) ?hr ?_; (case hd => rfl); (case hg => rfl); (case hr => exact Qh0_); intro gb hggb w3 hbox hb; have n0_ := Aside0.mk (below_step Qa0_ hb); have n1_ := Aside0.mk (hbox); clear HB; have HB := n0_; have BKgb := n1_; clear n0_ n1_; clear hb hbox hggb; have hczgb0 : w3.cell? ⟨gb, 0, none⟩ = some (.int .i64 a0_0) := (blk_cell BKgb.out 0).trans rfl; have hczgb1 : w3.cell? ⟨gb, 1, none⟩ = some (.int .i64 a0_1) := (blk_cell BKgb.out 1).trans rfl; have hczgb2 : w3.cell? ⟨gb, 2, none⟩ = some (.slice A0_2 l0_2.length c0_2) := (blk_cell BKgb.out 2).trans rfl; have hczgb3 : w3.cell? ⟨gb, 3, none⟩ = some (.slice A0_3 l0_3.length c0_3) := (blk_cell BKgb.out 3).trans rfl) | (go_at_call 28; (with_reducible refine (impl_ValidBlockCode.calls k a0_0 a0_1 A0_2 c0_2 l0_2 A0_3 c0_3 l0_3 false _ ?v1 ?v2 ?v3 ?v4 A1_.out).mono ?_); (case v1 => exact Kd.C_below HR0_2.out HB.out); (case v2 => exact HC0_2.out); (case v3 => exact Kd.C_below HR0_3.out HB.out); (case v4 => exact HC0_3.out); rintro e w4 ⟨rfl, hb4⟩; have HI := Aside0.mk (EbI.below ⟨BKgb.out, HB.out⟩ hb4); clear hb4; have hcw0 : w4.cell? ⟨gb, 0, none⟩ = some (.int .i64 a0_0) := (blk_cell HI.out.1 0).trans rfl; have hcw1 : w4.cell? ⟨gb, 1, none⟩ = some (.int .i64 a0_1) := (blk_cell HI.out.1 1).trans rfl))
  go_ret3
  exact ⟨Qc0_, HI.out.2⟩
 | true =>
 rw [if_pos rfl] at h
 by_cases c0 : 0 ≤ a0_0 ∧ a0_0 ≤ 60 ∧ 1 ≤ a0_1 ∧ a0_1 ≤ 1000
 rotate_left
 ·rw [if_neg c0] at h
  cases h
 rw [if_pos c0] at h
 have c0b0 := eq_true c0.1
 have c0b1 : decide (0 ≤ a0_0) = true := decide_eq_true c0.1
 have c064t : (a0_0 ≤ 64) = True := eq_true (by omega)
 have c0b2 : (a0_1 == 0) = false := beq_eq_false_iff_ne.2 (by omega)
 have c0b3 : a0_1 ≠ 0 := by omega
 have c0b4 : 1 ≤ a0_1 := c0.2.2.1
 have c0b5 : a0_1 ≤ 1000 := c0.2.2.2
 obtain ⟨ji, hji⟩ : ∃ j_ : Int, (shl .i64 1 a0_0) = j_ := ⟨_, rfl⟩
 rw [hji] at h
 have hji_ : (IntKind.i64.wrap (1 * 2 ^ min a0_0.toNat 64)) = ji := hji
 have hjiz : (IntKind.i64.wrap (1 * 2 ^ a0_0.toNat)) = ji := shl_small hji (of_eq_true c064t)
 have hjiu : (IntKind.i64.wrap (2 ^ min a0_0.toNat 64)) = ji := by have h_ := hji_; rw [Int.one_mul] at h_; exact h_
 have hjiv : (IntKind.i64.wrap (2 ^ a0_0.toNat)) = ji := by have h_ := hjiz; rw [Int.one_mul] at h_; exact h_
 have hjiy : (wrap64 (1 * 2 ^ min a0_0.toNat 64)) = ji := (i64_w _).symm.trans hji_
 have hjix : (wrap64 (1 * 2 ^ a0_0.toNat)) = ji := (i64_w _).symm.trans hjiz
 clear c0 hji
 obtain ⟨jm, hjm⟩ : ∃ j_ : Int, wrap64 (ji - 1) = j_ := ⟨_, rfl⟩
 rw [hjm] at h
 have hjmw : (IntKind.i64.wrap (ji - 1)) = jm := (i64_w _).trans hjm
 obtain ⟨t2, A2, h⟩ := Option.bind_eq_some_iff.mp h
 have A2_ := Aside0.mk A2
 clear A2
 cases t2 with
 | false =>
  replace h : some ((⟨#[]⟩ : ByteArray), (0 : Int), false) = some (r1, r2, r3) := h
  simp only [Option.some.injEq, Prod.mk.injEq] at h
  obtain ⟨rfl, rfl, rfl⟩ := h
  go_enter Tryz.func6, Tryz.ntmps6
  go_wp2_with (first | ((with_reducible refine gate_dst (N := 3) rfl ?_); (try (refine gate_guard (by rfl) ?_; dsimp only)); refine box_event ?hg (N := 3) ?hd (cs := #[.int .i64 a0_0, .int .i64 a0_1, .slice A0_2 l0_2.length c0_2, .slice A0_3 l0_3.length c0_3]) (t := 25) ?hr ?_; (case hd => rfl); (case hg => rfl); (case hr => exact Qh0_); intro gb hggb w3 hbox hb; have n0_ := Aside0.mk (below_step Qa0_ hb); have n1_ := Aside0.mk (hbox); clear HB; have HB := n0_; have BKgb := n1_; clear n0_ n1_; clear hb hbox hggb; have hczgb0 : w3.cell? ⟨gb, 0, none⟩ = some (.int .i64 a0_0) := (blk_cell BKgb.out 0).trans rfl; have hczgb1 : w3.cell? ⟨gb, 1, none⟩ = some (.int .i64 a0_1) := (blk_cell BKgb.out 1).trans rfl; have hczgb2 : w3.cell? ⟨gb, 2, none⟩ = some (.slice A0_2 l0_2.length c0_2) := (blk_cell BKgb.out 2).trans rfl; have hczgb3 : w3.cell? ⟨gb, 3, none⟩ = some (.slice A0_3 l0_3.length c0_3) := (blk_cell BKgb.out 3).trans rfl) | (go_at_call 28; (with_reducible refine (impl_ValidBlockCode.calls k a0_0 a0_1 A0_2 c0_2 l0_2 A0_3 c0_3 l0_3 true _ ?v1 ?v2 ?v3 ?v4 A1_.out).mono ?_); (case v1 => exact Kd.C_below HR0_2.out HB.out); (case v2 => exact HC0_2.out); (case v3 => exact Kd.C_below HR0_3.out HB.out); (case v4 => exact HC0_3.out); rintro e w4 ⟨rfl, hb4⟩; have HI := Aside0.mk (EbI.below ⟨BKgb.out, HB.out⟩ hb4); clear hb4; have hcw0 : w4.cell? ⟨gb, 0, none⟩ = some (.int .i64 a0_0) := (blk_cell HI.out.1 0).trans rfl; have hcw1 : w4.cell? ⟨gb, 1, none⟩ = some (.int .i64 a0_1) := (blk_cell HI.out.1 1).trans rfl) | (go_at_call 29; (with_reducible refine (impl_isLineState.calls a1 false _ A2_.out).mono ?_); rintro e w5 ⟨rfl, ⟨nd2, rfl⟩⟩))
  go_ret3
  exact ⟨Qc0_, (HI.out.drewN _).2⟩
 | true =>
 rw [if_pos rfl] at h
 obtain ⟨t3, A3, h⟩ := Option.bind_eq_some_iff.mp h
 have A3_ := Aside0.mk A3
 clear A3
 cases t3 with
 | false =>
  replace h : some ((⟨#[]⟩ : ByteArray), (0 : Int), false) = some (r1, r2, r3) := h
  simp only [Option.some.injEq, Prod.mk.injEq] at h
  obtain ⟨rfl, rfl, rfl⟩ := h
  go_enter Tryz.func6, Tryz.ntmps6
  go_wp2_with (first | ((with_reducible refine gate_dst (N := 3) rfl ?_); (try (refine gate_guard (by rfl) ?_; dsimp only)); refine box_event ?hg (N := 3) ?hd (cs := #[.int .i64 a0_0, .int .i64 a0_1, .slice A0_2 l0_2.length c0_2, .slice A0_3 l0_3.length c0_3]) (t := 25) ?hr ?_; (case hd => rfl); (case hg => rfl); (case hr => exact Qh0_); intro gb hggb w3 hbox hb; have n0_ := Aside0.mk (below_step Qa0_ hb); have n1_ := Aside0.mk (hbox); clear HB; have HB := n0_; have BKgb := n1_; clear n0_ n1_; clear hb hbox hggb; have hczgb0 : w3.cell? ⟨gb, 0, none⟩ = some (.int .i64 a0_0) := (blk_cell BKgb.out 0).trans rfl; have hczgb1 : w3.cell? ⟨gb, 1, none⟩ = some (.int .i64 a0_1) := (blk_cell BKgb.out 1).trans rfl; have hczgb2 : w3.cell? ⟨gb, 2, none⟩ = some (.slice A0_2 l0_2.length c0_2) := (blk_cell BKgb.out 2).trans rfl; have hczgb3 : w3.cell? ⟨gb, 3, none⟩ = some (.slice A0_3 l0_3.length c0_3) := (blk_cell BKgb.out 3).trans rfl) | (go_at_call 28; (with_reducible refine (impl_ValidBlockCode.calls k a0_0 a0_1 A0_2 c0_2 l0_2 A0_3 c0_3 l0_3 true _ ?v1 ?v2 ?v3 ?v4 A1_.out).mono ?_); (case v1 => exact Kd.C_below HR0_2.out HB.out); (case v2 => exact HC0_2.out); (case v3 => exact Kd.C_below HR0_3.out HB.out); (case v4 => exact HC0_3.out); rintro e w4 ⟨rfl, hb4⟩; have HI := Aside0.mk (EbI.below ⟨BKgb.out, HB.out⟩ hb4); clear hb4; have hcw0 : w4.cell? ⟨gb, 0, none⟩ = some (.int .i64 a0_0) := (blk_cell HI.out.1 0).trans rfl; have hcw1 : w4.cell? ⟨gb, 1, none⟩ = some (.int .i64 a0_1) := (blk_cell HI.out.1 1).trans rfl) | (go_at_call 29; (with_reducible refine (impl_isLineState.calls a1 true _ A2_.out).mono ?_); rintro e w5 ⟨rfl, ⟨nd2, rfl⟩⟩) | (go_at_call 26; (with_reducible refine (impl_areIn.calls k A2 c2 l2 0 jm false _ ?i1 ?i2 A3_.out).mono ?_); (case i1 => exact Kd.C_below HR2.out (pw_below_drewN HI.out.2 _)); (case i2 => exact HC2.out); rintro e w6 ⟨rfl, ⟨nd3, rfl⟩⟩))
  go_ret3
  exact ⟨Qc0_, (HI.out.drewN _).2⟩
 | true =>
 rw [if_pos rfl] at h
 obtain ⟨jq, hjq⟩ : ∃ j_ : Int, 400 / a0_1 = j_ := ⟨_, rfl⟩
 rw [hjq] at h
 have hjq0 : 0 ≤ jq := by rw [← hjq]; exact Int.ediv_nonneg (by decide) (by omega)
 have hjq1 : jq ≤ 400 := by rw [← hjq]; exact Int.ediv_le_self _ (by decide)
 have hjqt : Int.tdiv 400 a0_1 = jq := by rw [← hjq]; exact Int.tdiv_eq_ediv_of_nonneg (by decide)
 by_cases c4 : (l2.length : Int) > jq
 ·rw [if_pos c4] at h
  simp only [Option.some.injEq, Prod.mk.injEq] at h
  obtain ⟨rfl, rfl, rfl⟩ := h
  have c4b0 := decide_eq_true c4
  clear c4
  go_enter Tryz.func6, Tryz.ntmps6
  go_wp2_with (first | ((with_reducible refine gate_dst (N := 3) rfl ?_); (try (refine gate_guard (by rfl) ?_; dsimp only)); refine box_event ?hg (N := 3) ?hd (cs := #[.int .i64 a0_0, .int .i64 a0_1, .slice A0_2 l0_2.length c0_2, .slice A0_3 l0_3.length c0_3]) (t := 25) ?hr ?_; (case hd => rfl); (case hg => rfl); (case hr => exact Qh0_); intro gb hggb w3 hbox hb; have n0_ := Aside0.mk (below_step Qa0_ hb); have n1_ := Aside0.mk (hbox); clear HB; have HB := n0_; have BKgb := n1_; clear n0_ n1_; clear hb hbox hggb; have hczgb0 : w3.cell? ⟨gb, 0, none⟩ = some (.int .i64 a0_0) := (blk_cell BKgb.out 0).trans rfl; have hczgb1 : w3.cell? ⟨gb, 1, none⟩ = some (.int .i64 a0_1) := (blk_cell BKgb.out 1).trans rfl; have hczgb2 : w3.cell? ⟨gb, 2, none⟩ = some (.slice A0_2 l0_2.length c0_2) := (blk_cell BKgb.out 2).trans rfl; have hczgb3 : w3.cell? ⟨gb, 3, none⟩ = some (.slice A0_3 l0_3.length c0_3) := (blk_cell BKgb.out 3).trans rfl) | (go_at_call 28; (with_reducible refine (impl_ValidBlockCode.calls k a0_0 a0_1 A0_2 c0_2 l0_2 A0_3 c0_3 l0_3 true _ ?v1 ?v2 ?v3 ?v4 A1_.out).mono ?_); (case v1 => exact Kd.C_below HR0_2.out HB.out); (case v2 => exact HC0_2.out); (case v3 => exact Kd.C_below HR0_3.out HB.out); (case v4 => exact HC0_3.out); rintro e w4 ⟨rfl, hb4⟩; have HI := Aside0.mk (EbI.below ⟨BKgb.out, HB.out⟩ hb4); clear hb4; have hcw0 : w4.cell? ⟨gb, 0, none⟩ = some (.int .i64 a0_0) := (blk_cell HI.out.1 0).trans rfl; have hcw1 : w4.cell? ⟨gb, 1, none⟩ = some (.int .i64 a0_1) := (blk_cell HI.out.1 1).trans rfl) | (go_at_call 29; (with_reducible refine (impl_isLineState.calls a1 true _ A2_.out).mono ?_); rintro e w5 ⟨rfl, ⟨nd2, rfl⟩⟩) | (go_at_call 26; (with_reducible refine (impl_areIn.calls k A2 c2 l2 0 jm true _ ?i1 ?i2 A3_.out).mono ?_); (case i1 => exact Kd.C_below HR2.out (pw_below_drewN HI.out.2 _)); (case i2 => exact HC2.out); rintro e w6 ⟨rfl, ⟨nd3, rfl⟩⟩))
  go_ret3
  exact ⟨Qc0_, (HI.out.drewN _).2⟩
 rw [if_neg c4] at h
 have c4b0 := decide_eq_false c4
 clear c4
 have H' := Aside0.mk h
 clear h
 go_enter Tryz.func6, Tryz.ntmps6
 go_wp2_with (first | ((with_reducible refine gate_dst (N := 3) rfl ?_); (try (refine gate_guard (by rfl) ?_; dsimp only)); refine box_event ?hg (N := 3) ?hd (cs := #[.int .i64 a0_0, .int .i64 a0_1, .slice A0_2 l0_2.length c0_2, .slice A0_3 l0_3.length c0_3]) (t := 25) ?hr ?_; (case hd => rfl); (case hg => rfl); (case hr => exact Qh0_); intro gb hggb w3 hbox hb; have n0_ := Aside0.mk (below_step Qa0_ hb); have n1_ := Aside0.mk (hbox); clear HB; have HB := n0_; have BKgb := n1_; clear n0_ n1_; clear hb hbox hggb; have hczgb0 : w3.cell? ⟨gb, 0, none⟩ = some (.int .i64 a0_0) := (blk_cell BKgb.out 0).trans rfl; have hczgb1 : w3.cell? ⟨gb, 1, none⟩ = some (.int .i64 a0_1) := (blk_cell BKgb.out 1).trans rfl; have hczgb2 : w3.cell? ⟨gb, 2, none⟩ = some (.slice A0_2 l0_2.length c0_2) := (blk_cell BKgb.out 2).trans rfl; have hczgb3 : w3.cell? ⟨gb, 3, none⟩ = some (.slice A0_3 l0_3.length c0_3) := (blk_cell BKgb.out 3).trans rfl) | (go_at_call 28; (with_reducible refine (impl_ValidBlockCode.calls k a0_0 a0_1 A0_2 c0_2 l0_2 A0_3 c0_3 l0_3 true _ ?v1 ?v2 ?v3 ?v4 A1_.out).mono ?_); (case v1 => exact Kd.C_below HR0_2.out HB.out); (case v2 => exact HC0_2.out); (case v3 => exact Kd.C_below HR0_3.out HB.out); (case v4 => exact HC0_3.out); rintro e w4 ⟨rfl, hb4⟩; have HI := Aside0.mk (EbI.below ⟨BKgb.out, HB.out⟩ hb4); clear hb4; have hcw0 : w4.cell? ⟨gb, 0, none⟩ = some (.int .i64 a0_0) := (blk_cell HI.out.1 0).trans rfl; have hcw1 : w4.cell? ⟨gb, 1, none⟩ = some (.int .i64 a0_1) := (blk_cell HI.out.1 1).trans rfl) | (go_at_call 29; (with_reducible refine (impl_isLineState.calls a1 true _ A2_.out).mono ?_); rintro e w5 ⟨rfl, ⟨nd2, rfl⟩⟩) | (go_at_call 26; (with_reducible refine (impl_areIn.calls k A2 c2 l2 0 jm true _ ?i1 ?i2 A3_.out).mono ?_); (case i1 => exact Kd.C_below HR2.out (pw_below_drewN HI.out.2 _)); (case i2 => exact HC2.out); rintro e w6 ⟨rfl, ⟨nd3, rfl⟩⟩))
 have HJ := Aside0.mk (HI.out.drewN (nd2 + nd3))
 clear HI
 go_loopg [9, 10, 43] k (fun kq v9 v10 v43 w' => ∃ (out : ByteArray) (st i : Int), v9 = .string out ∧ v10 = .int .i64 st ∧ v43 = .int .i64 i ∧ Aside0 (impl_EncodeBlocks.l0 kq l0_2 l0_3 l2 out st i = some (r1, r2, r3)) ∧ Aside0 (kq ≤ k) ∧ Aside0 (EbI w w' gb #[.int .i64 a0_0, .int .i64 a0_1, .slice A0_2 l0_2.length c0_2, .slice A0_3 l0_3.length c0_3]))
 case atStart => exact ⟨(⟨#[]⟩ : ByteArray), a1, 0, Qc0_, Qc0_, Qc0_, H', ⟨Nat.le_refl _⟩, HJ⟩
 case round =>
  clear H' HJ hczgb0 hczgb1 hczgb2 hczgb3 hcw0 hcw1 c0b0 c0b1 c064t c0b2 c0b3 c0b4 c0b5 hji_ hjiz hjiu hjiv hjiy hjix hjm hjmw hjq hjqt hjq0 hjq1 c4b0 HB
  obtain ⟨out, st, i, rfl, rfl, rfl, HA, HK1, HI⟩ := hrel
  cases gk with
  | zero => exact absurd HA.out (by simp [impl_EncodeBlocks.l0])
  | succ k1 =>
   have H := HA.out
   clear HA
   simp only [impl_EncodeBlocks.l0] at H
   by_cases d1 : i < (l2.length : Int)
   rotate_left
   ·rw [if_neg d1] at H
    simp only [Option.some.injEq, Prod.mk.injEq] at H
    obtain ⟨rfl, rfl, rfl⟩ := H
    have d1b0 : decide (i < (l2.length : Int)) = false := decide_eq_false d1
    clear d1
    go_wp2
    go_ret3
    exact ⟨Qc0_, HI.out.2⟩
   rw [if_pos d1] at H
   have d1b0 : decide (i < (l2.length : Int)) = true := decide_eq_true d1
   by_cases d2 : 0 ≤ i
   rotate_left
   ·rw [if_neg d2] at H
    exact absurd H (by simp)
   rw [if_pos d2] at H
   obtain ⟨ad1, e1, hx1⟩ := Kd.at_int (Kd.C_below HR2.out HI.out.2) i d2 d1
   cases e1
   have p1 := eq_true d2
   have q1 := eq_true d1
   clear d1 d2
   obtain ⟨x, hx⟩ : ∃ x : Int, x = rd l2 i := ⟨_, rfl⟩
   rw [← hx] at H hx1
   clear hx
   have hcv0 : wr.cell? ⟨gb, 0, none⟩ = some (.int .i64 a0_0) := (blk_cell HI.out.1 0).trans rfl
   have hcv1 : wr.cell? ⟨gb, 1, none⟩ = some (.int .i64 a0_1) := (blk_cell HI.out.1 1).trans rfl
   have hcv2 : wr.cell? ⟨gb, 2, none⟩ = some (.slice A0_2 l0_2.length c0_2) := (blk_cell HI.out.1 2).trans rfl
   have hcv3 : wr.cell? ⟨gb, 3, none⟩ = some (.slice A0_3 l0_3.length c0_3) := (blk_cell HI.out.1 3).trans rfl
   by_cases d3 : 0 ≤ x
   rotate_left
   ·rw [if_neg d3] at H
    exact absurd H (by simp)
   rw [if_pos d3] at H
   by_cases hst : st < 0
   ·simp only [if_pos hst] at H
    by_cases d4 : x < (l0_2.length : Int)
    rotate_left
    ·rw [if_neg d4] at H
     exact absurd H (by simp)
    rw [if_pos d4] at H
    obtain ⟨ad2, e2, hx2⟩ := Kd.at_string (Kd.C_below HR0_2.out HI.out.2) x d3 d4
    cases e2
    have p2 := eq_true d3
    have q2 := eq_true d4
    clear d3 d4
    obtain ⟨y, hy⟩ : ∃ y : ByteArray, y = rdOf ByteArray.empty l0_2 x := ⟨_, rfl⟩
    rw [← hy] at H hx2
    clear hy
    by_cases d5 : out.size ≤ 100000 ∧ y.size ≤ 100000
    rotate_left
    ·rw [if_neg d5] at H
     exact absurd H (by simp)
    rw [if_pos d5] at H
    have hsz : out.size + y.size ≤ 9223372036854775807 := by omega
    have hsz2 : (9223372036854775807 < out.size + y.size) = False := eq_false (by omega)
    clear d5
    obtain ⟨t, A1, H⟩ := Option.bind_eq_some_iff.mp H
    have A4_ := Aside0.mk A1
    clear A1
    have H' := Aside0.mk H
    clear H
    go_wp2_with (first | (go_at_call 30; refine (bw_minus a0_0 a0_1 _ _ st _ hst rfl rfl).mono ?_; rintro e w7 ⟨rfl, hb7⟩; have HI2 := Aside0.mk (EbI.below HI.out hb7); have hy2 := (hb7.cell (World.block_lt_of_cell? wr _ hx2)).trans hx2; clear hb7) | (go_at_call 31; (with_reducible refine (impl_stateBehind.calls st y t _ A4_.out).mono ?_); rintro e w8 ⟨rfl, ⟨nd, rfl⟩⟩))
    go_roundg k1
    case measure => have := HK1.out; omega
    case rel => exact ⟨(out ++ y), t, (wrap64 (i + 1)), Qc0_, Qc0_, Qc0_, H', ⟨Qp0_⟩, ⟨HI2.out.drewN _⟩⟩
   ·simp only [if_neg hst] at H
    by_cases d4 : x < (l0_3.length : Int)
    rotate_left
    ·rw [if_neg d4] at H
     exact absurd H (by simp)
    rw [if_pos d4] at H
    obtain ⟨ad2, e2, hx2⟩ := Kd.at_string (Kd.C_below HR0_3.out HI.out.2) x d3 d4
    cases e2
    have p2 := eq_true d3
    have q2 := eq_true d4
    clear d3 d4
    obtain ⟨y, hy⟩ : ∃ y : ByteArray, y = rdOf ByteArray.empty l0_3 x := ⟨_, rfl⟩
    rw [← hy] at H hx2
    clear hy
    by_cases d5 : out.size ≤ 100000 ∧ y.size ≤ 100000
    rotate_left
    ·rw [if_neg d5] at H
     exact absurd H (by simp)
    rw [if_pos d5] at H
    have hsz : out.size + y.size ≤ 9223372036854775807 := by omega
    have hsz2 : (9223372036854775807 < out.size + y.size) = False := eq_false (by omega)
    clear d5
    obtain ⟨t, A1, H⟩ := Option.bind_eq_some_iff.mp H
    have A4_ := Aside0.mk A1
    clear A1
    have H' := Aside0.mk H
    clear H
    go_wp2_with (first | (go_at_call 30; refine (bw_plus a0_0 a0_1 _ _ st _ hst rfl rfl).mono ?_; rintro e w7 ⟨rfl, hb7⟩; have HI2 := Aside0.mk (EbI.below HI.out hb7); have hy2 := (hb7.cell (World.block_lt_of_cell? wr _ hx2)).trans hx2; clear hb7) | (go_at_call 31; (with_reducible refine (impl_stateBehind.calls st y t _ A4_.out).mono ?_); rintro e w8 ⟨rfl, ⟨nd, rfl⟩⟩))
    go_roundg k1
    case measure => have := HK1.out; omega
    case rel => exact ⟨(out ++ y), t, (wrap64 (i + 1)), Qc0_, Qc0_, Qc0_, H', ⟨Qp0_⟩, ⟨HI2.out.drewN _⟩⟩
def spec_l00In.f (a0 : Int) (a1 : Int) (a2 : Int) : Option (Bool) := if a0 ≥ a1 then (some (decide (a0 ≤ a2))) else (some false)
set_option maxHeartbeats 8000000 in
set_option maxRecDepth 100000 in
theorem spec_l00In.calls (a0 : Int) (a1 : Int) (a2 : Int) (r : Bool) (w : World) (h : spec_l00In.f a0 a1 a2 = some r) :
 Calls Tryz.prog 70 #[.int .i64 a0, .int .i64 a1, .int .i64 a2] w fun e w' => e = .returned (.bool r) ∧ Drawn0 w w' := by
 have H : (if a0 ≥ a1 then (some (decide (a0 ≤ a2))) else (some false)) = some r := h
 clear h
 by_cases c4 : a0 ≥ a1
 ·rw [if_pos c4] at H
  have c4b0 := decide_eq_true c4
  clear c4
  obtain rfl := Option.some.inj H
  go_enter Tryz.func70, Tryz.ntmps70
  go_wp2
  go_ret
  exact ⟨Qc0_, Qd0_⟩
 ·rw [if_neg c4] at H
  have c4b0 := decide_eq_false c4
  clear c4
  obtain rfl := Option.some.inj H
  go_enter Tryz.func70, Tryz.ntmps70
  go_wp2
  go_ret
  exact ⟨Qc0_, Qd0_⟩
end Go.Proofs.YtbjmbfjbjkhhdaaGreatDoor.QFnTopOfAll
