/- Made small by wip/pack.py: lemmas and contracts that the law's row leans on. -/
import Derived.Test.YtdnjebnmianogaaGreatDoorZFnTop27
import Derived.Test.YtdnjebnmianogaaGreatDoorZFnTop28
import Derived.Test.YtdnjebnmianogaaGreatDoorZFnTop30
namespace Go.Proofs.YtdnjebnmianogaaGreatDoor.QFnTop
open Go.RowKit Go.Proofs.YtdnjebnmianogaaGreatDoorW.PrintWords Go.Proofs.YtdnjebnmianogaaGreatDoorW.PrintLast Go.Proofs.YtdnjebnmianogaaGreatDoorW.PrintMore
attribute [local go_sem] max2_int min2_int max_two min_two max_three min_three max_four min_four
set_option linter.unusedVariables false
set_option linter.unusedSimpArgs false
def slices_Index_string_string.l0 : Nat → List ByteArray → ByteArray → Int → Int → Option (Int)
 | 0, _, _, _, _ => none
 | k + 1, x0, x1, x7, x8 => if x8 < x7 then (if 0 ≤ x8 then (if x8 < (x0.length : Int) then (if x1.toList = (rdOf ByteArray.empty x0 x8).toList then (some x8) else (slices_Index_string_string.l0 k x0 x1 x7 (wrap64 (x8 + 1)))) else (none)) else (none)) else (some (-1))
def slices_Index_string_string.f (k : Nat) (l0 : List ByteArray) (a1 : ByteArray) : Option (Int) := slices_Index_string_string.l0 k l0 a1 (l0.length : Int) 0
theorem slices_Index_string_string.mono_l : ∀ k, (∀ y0 y1 y2 y3, LeO (slices_Index_string_string.l0 k y0 y1 y2 y3) (slices_Index_string_string.l0 (k + 1) y0 y1 y2 y3))
 | 0 => fun _ _ _ _ r h => by simp [slices_Index_string_string.l0] at h
 | k + 1 => by
  have ih0 := slices_Index_string_string.mono_l k
  ·intro y0 y1 y2 y3
   unfold slices_Index_string_string.l0
   repeat' first
   | (with_reducible exact ih0 _ _ _ _)
   | (with_reducible exact LeO.refl _)
   | (with_reducible exact LeO.none _)
   | (with_reducible refine LeO.ite ?_ ?_)
   | (with_reducible refine LeO.bind ?_ (fun _ => ?_))
   | exact ih0 _ _ _ _
   | exact LeO.none _
   | refine LeO.ite ?_ ?_
   | refine LeO.bind ?_ (fun _ => ?_)
theorem slices_Index_string_string.mono : ∀ a0 a1 k, LeO (slices_Index_string_string.f k a0 a1) (slices_Index_string_string.f (k + 1) a0 a1) := by
 intro a0 a1 k
 have ih0 := slices_Index_string_string.mono_l k
 unfold slices_Index_string_string.f
 repeat' first
  | (with_reducible exact ih0 _ _ _ _)
  | (with_reducible exact LeO.refl _)
  | (with_reducible exact LeO.none _)
  | (with_reducible refine LeO.ite ?_ ?_)
  | (with_reducible refine LeO.bind ?_ (fun _ => ?_))
  | exact ih0 _ _ _ _
  | exact LeO.none _
  | refine LeO.ite ?_ ?_
  | refine LeO.bind ?_ (fun _ => ?_)
set_option maxHeartbeats 8000000 in
set_option maxRecDepth 100000 in
theorem slices_Index_string_string.calls (k : Nat) (A0 : Option Addr) (c0 : Nat) (l0 : List ByteArray) (a1 : ByteArray) (r : Int) (w : World) (hr0 : Kd.C Kd.string w A0 l0.length l0) (hc0 : l0.length ≤ c0) (h : slices_Index_string_string.f k l0 a1 = some r) :
 Calls Tryz.prog 59 #[.slice A0 l0.length c0, .string a1] w fun e w' => e = .returned (.int .i64 r) ∧ Drawn0 w w' := by
 have HR0 := Aside0.mk hr0
 have HC0 := Aside0.mk hc0
 clear hr0 hc0
 have H : (slices_Index_string_string.l0 k l0 a1 (l0.length : Int) 0) = some r := h
 clear h
 have H' := Aside0.mk H
 clear H
 go_enter Tryz.func59, Tryz.ntmps59
 go_wp2
 go_loopg [8] k (fun kq v8 w' => ∃ (x8_1 : Int), v8 = .int .i64 x8_1 ∧ Aside0 (slices_Index_string_string.l0 kq l0 a1 (l0.length : Int) x8_1 = some r) ∧ Aside0 (kq ≤ k) ∧ Drawn0 w w')
 case atStart => exact ⟨(0), Qc0_, H', ⟨Nat.le_refl _⟩, Qf0_⟩
 case round =>
  clear H'
  try clear p2
  obtain ⟨x8_1, rfl, HA, HK1, ⟨m1, rfl⟩⟩ := hrel
  cases gk with
  | zero => exact absurd HA.out (by simp [slices_Index_string_string.l0])
  | succ k1 =>
   have H := HA.out
   clear HA
   simp only [slices_Index_string_string.l0] at H
   by_cases c3 : x8_1 < (l0.length : Int)
   ·rw [if_pos c3] at H
    have c3b0 := decide_eq_true c3
    clear c3
    by_cases c4 : 0 ≤ x8_1
    ·rw [if_pos c4] at H
     have c4b0 := decide_eq_true c4
     clear c4
     by_cases c5 : x8_1 < (l0.length : Int)
     ·rw [if_pos c5] at H
      have c5b0 := decide_eq_true c5
      clear c5
      by_cases c6 : a1.toList = (rdOf ByteArray.empty l0 x8_1).toList
      ·rw [if_pos c6] at H
       have c6b0 := beq_iff_eq.mpr c6
       have c6b1 := bne_eq_false_iff_eq.mpr c6
       clear c6
       obtain rfl := Option.some.inj H
       have p192 : 0 ≤ (x8_1 : Int) := of_decide_eq_true Qe0_
       have q192 : x8_1 < (l0.length : Int) := of_decide_eq_true Qe0_
       obtain ⟨ad192, e192, hx192_0⟩ := Kd.at_string HR0.out x8_1 p192 q192
       cases e192
       replace p192 := eq_true p192
       replace q192 := eq_true q192
       go_wp2
       go_ret
       exact ⟨Qc0_, Qf0_⟩
      ·rw [if_neg c6] at H
       have c6b0 := beq_eq_false_iff_ne.mpr c6
       have c6b1 := bne_iff_ne.mpr c6
       have H' := Aside0.mk H
       clear H
       have p192 : 0 ≤ (x8_1 : Int) := of_decide_eq_true Qe0_
       have q192 : x8_1 < (l0.length : Int) := of_decide_eq_true Qe0_
       obtain ⟨ad192, e192, hx192_0⟩ := Kd.at_string HR0.out x8_1 p192 q192
       cases e192
       replace p192 := eq_true p192
       replace q192 := eq_true q192
       go_wp2
       go_roundg k1
       case measure => have := HK1.out; omega
       case rel => exact ⟨(wrap64 (x8_1 + 1)), Qc0_, H', ⟨Qs0_⟩, Qf0_⟩
     ·rw [if_neg c5] at H
      exact absurd H (by simp)
    ·rw [if_neg c4] at H
     exact absurd H (by simp)
   ·rw [if_neg c3] at H
    have c3b0 := decide_eq_false c3
    clear c3
    obtain rfl := Option.some.inj H
    go_wp2
    go_ret
    exact ⟨Qc0_, Qf0_⟩
mutual
def impl_ValidBlockCode.j0 : Nat → Bool → Int → Int → List ByteArray → List ByteArray → Option (Bool)
 | 0, _, _, _, _, _ => none
 | k + 1, x29, x194000, x194001, x194002, x194003 => if x29 = true then (some false) else (impl_ValidBlockCode.l0 k x194002 (x194002.length : Int) 0 x194000 x194001 x194002 x194003)
def impl_ValidBlockCode.l0 : Nat → List ByteArray → Int → Int → Int → Int → List ByteArray → List ByteArray → Option (Bool)
 | 0, _, _, _, _, _, _, _ => none
 | k + 1, x31, x32, x33, x194000, x194001, x194002, x194003 => if x33 < x32 then (if 0 ≤ x33 then (if x33 < (x31.length : Int) then ((slices_Index_string_string.f k x194003 (rdOf ByteArray.empty x31 x33)).bind fun t199 => (if t199 ≥ 0 then (if t199 = x33 then (impl_ValidBlockCode.l0 k x31 x32 (wrap64 (x33 + 1)) x194000 x194001 x194002 x194003) else (some false)) else (impl_ValidBlockCode.l0 k x31 x32 (wrap64 (x33 + 1)) x194000 x194001 x194002 x194003))) else (none)) else (none)) else (some true)
end
def impl_ValidBlockCode.f (k : Nat) (a0_0 : Int) (a0_1 : Int) (l0_2 : List ByteArray) (l0_3 : List ByteArray) : Option (Bool) := (impl_isData.f a0_0).bind fun t194 => (if t194 = true then ((impl_isWidth.f a0_1).bind fun t195 => (if t195 = true then ((impl_BlockCode_areWords.f k a0_0 a0_1 l0_2 l0_3 l0_2 2).bind fun t196 => (if t196 = true then ((impl_BlockCode_areWords.f k a0_0 a0_1 l0_2 l0_3 l0_3 (-2)).bind fun t197 => (impl_ValidBlockCode.j0 k (!t197) a0_0 a0_1 l0_2 l0_3)) else (impl_ValidBlockCode.j0 k true a0_0 a0_1 l0_2 l0_3))) else (impl_ValidBlockCode.j0 k true a0_0 a0_1 l0_2 l0_3))) else (impl_ValidBlockCode.j0 k true a0_0 a0_1 l0_2 l0_3))
theorem impl_ValidBlockCode.mono_l : ∀ k, (∀ y0 y1 y2 y3 y4, LeO (impl_ValidBlockCode.j0 k y0 y1 y2 y3 y4) (impl_ValidBlockCode.j0 (k + 1) y0 y1 y2 y3 y4)) ∧ (∀ y0 y1 y2 y3 y4 y5 y6, LeO (impl_ValidBlockCode.l0 k y0 y1 y2 y3 y4 y5 y6) (impl_ValidBlockCode.l0 (k + 1) y0 y1 y2 y3 y4 y5 y6))
 | 0 => ⟨fun _ _ _ _ _ r h => by simp [impl_ValidBlockCode.j0] at h, fun _ _ _ _ _ _ _ r h => by simp [impl_ValidBlockCode.l0] at h⟩
 | k + 1 => by
  obtain ⟨ih0, ih1⟩ := impl_ValidBlockCode.mono_l k
  refine ⟨?_, ?_⟩
  all_goals (intros; first | unfold impl_ValidBlockCode.j0 | unfold impl_ValidBlockCode.l0)
  all_goals (repeat' first
   | (with_reducible exact ih0 _ _ _ _ _)
   | (with_reducible exact ih1 _ _ _ _ _ _ _)
   | (with_reducible exact impl_BlockCode_areWords.mono _ _ _ _ _ _ _)
   | (with_reducible exact slices_Index_string_string.mono _ _ _)
   | (with_reducible exact LeO.refl _)
   | (with_reducible exact LeO.none _)
   | (with_reducible refine LeO.ite ?_ ?_)
   | (with_reducible refine LeO.bind ?_ (fun _ => ?_))
   | exact ih0 _ _ _ _ _
   | exact ih1 _ _ _ _ _ _ _
   | exact impl_BlockCode_areWords.mono _ _ _ _ _ _ _
   | exact slices_Index_string_string.mono _ _ _
   | exact LeO.none _
   | refine LeO.ite ?_ ?_
   | refine LeO.bind ?_ (fun _ => ?_))
theorem impl_ValidBlockCode.mono : ∀ a0 a1 a2 a3 k, LeO (impl_ValidBlockCode.f k a0 a1 a2 a3) (impl_ValidBlockCode.f (k + 1) a0 a1 a2 a3) := by
 intro a0 a1 a2 a3 k
 obtain ⟨ih0, ih1⟩ := impl_ValidBlockCode.mono_l k
 unfold impl_ValidBlockCode.f
 repeat' first
  | (with_reducible exact ih0 _ _ _ _ _)
  | (with_reducible exact ih1 _ _ _ _ _ _ _)
  | (with_reducible exact impl_BlockCode_areWords.mono _ _ _ _ _ _ _)
  | (with_reducible exact slices_Index_string_string.mono _ _ _)
  | (with_reducible exact LeO.refl _)
  | (with_reducible exact LeO.none _)
  | (with_reducible refine LeO.ite ?_ ?_)
  | (with_reducible refine LeO.bind ?_ (fun _ => ?_))
  | exact ih0 _ _ _ _ _
  | exact ih1 _ _ _ _ _ _ _
  | exact impl_BlockCode_areWords.mono _ _ _ _ _ _ _
  | exact slices_Index_string_string.mono _ _ _
  | exact LeO.none _
  | refine LeO.ite ?_ ?_
  | refine LeO.bind ?_ (fun _ => ?_)
set_option maxHeartbeats 8000000 in
set_option maxRecDepth 100000 in
theorem impl_ValidBlockCode.calls (k : Nat) (a0_0 : Int) (a0_1 : Int) (A0_2 : Option Addr) (c0_2 : Nat) (l0_2 : List ByteArray) (A0_3 : Option Addr) (c0_3 : Nat) (l0_3 : List ByteArray) (r : Bool) (w : World) (hr0_2 : Kd.C Kd.string w A0_2 l0_2.length l0_2) (hc0_2 : l0_2.length ≤ c0_2) (hr0_3 : Kd.C Kd.string w A0_3 l0_3.length l0_3) (hc0_3 : l0_3.length ≤ c0_3) (h : impl_ValidBlockCode.f k a0_0 a0_1 l0_2 l0_3 = some r) :
 Calls Tryz.prog 28 #[.agg #[.int .i64 a0_0, .int .i64 a0_1, .slice A0_2 l0_2.length c0_2, .slice A0_3 l0_3.length c0_3]] w fun e w' => e = .returned (.bool r) ∧ Below w.heap.size w w' := by
 have hu26 := Tryz.underlying26
 have HR0_2 := Aside0.mk hr0_2
 have HC0_2 := Aside0.mk hc0_2
 clear hr0_2 hc0_2
 have HR0_3 := Aside0.mk hr0_3
 have HC0_3 := Aside0.mk hc0_3
 clear hr0_3 hc0_3
 have HB := Aside0.mk (Below.refl w.heap.size w)
 have H : ((impl_isData.f a0_0).bind fun t194 => (if t194 = true then ((impl_isWidth.f a0_1).bind fun t195 => (if t195 = true then ((impl_BlockCode_areWords.f k a0_0 a0_1 l0_2 l0_3 l0_2 2).bind fun t196 => (if t196 = true then ((impl_BlockCode_areWords.f k a0_0 a0_1 l0_2 l0_3 l0_3 (-2)).bind fun t197 => (impl_ValidBlockCode.j0 k (!t197) a0_0 a0_1 l0_2 l0_3)) else (impl_ValidBlockCode.j0 k true a0_0 a0_1 l0_2 l0_3))) else (impl_ValidBlockCode.j0 k true a0_0 a0_1 l0_2 l0_3))) else (impl_ValidBlockCode.j0 k true a0_0 a0_1 l0_2 l0_3))) = some r := h
 clear h
 have HC2 := Aside0.mk H
 clear H
 go_enter Tryz.func28, Tryz.ntmps28
 go_upto_region 1 with (first | ((with_reducible refine gate_dst (N := 1) rfl ?_); refine box_event ?hg (N := 1) ?hd (cs := #[.int .i64 a0_0, .int .i64 a0_1, .slice A0_2 l0_2.length c0_2, .slice A0_3 l0_3.length c0_3]) (t := 26) ?hr ?_; (case hd => rfl); (case hg => rfl); (case hr => exact Qg0_); intro gb193 hg w3 hbox hb; have n0_ := Aside0.mk (below_step Qa0_ hb); have n1_ := Aside0.mk (hbox); have n2_ := Aside0.mk ((Qp1_ : w.heap.size ≤ gb193)); have n3_ := Aside0.mk ((Qp1_ : w.heap.size ≤ gb193)); clear HB; have HB := n0_; have BK193 := n1_; have GW193 := n2_; have GE193 := n3_; clear n0_ n1_ n2_ n3_; clear hb hbox hg))
 (try simp only [Act.put, List.setIfInBounds_toArray, List.set_cons_zero, List.set_cons_succ])
 go_cut [29] (fun v29 wc => ∃ (kq : Nat) (x29_1 : Bool), v29 = .bool x29_1 ∧ Aside0 (impl_ValidBlockCode.j0 kq x29_1 a0_0 a0_1 l0_2 l0_3 = some r) ∧ Aside0 (kq ≤ k) ∧ Aside0 (wc.heap[gb193]? = some (.cells #[.int .i64 a0_0, .int .i64 a0_1, (.slice A0_2 l0_2.length c0_2), (.slice A0_3 l0_3.length c0_3)] 26 (0, 0))) ∧ Aside0 (Below w.heap.size w wc))
 case first =>
  have H := HC2.out
  clear HC2
  replace H := Option.bind_eq_some_iff.mp H
  obtain ⟨t194, A40, H⟩ := H
  try dsimp only at H
  have A4 := Aside0.mk A40
  clear A40
  by_cases c5 : t194 = true
  ·subst c5
   rw [if_pos rfl] at H
   have H1 := H
   clear H
   have H := H1
   clear H1
   replace H := Option.bind_eq_some_iff.mp H
   obtain ⟨t195, A60, H⟩ := H
   try dsimp only at H
   have A6 := Aside0.mk A60
   clear A60
   by_cases c7 : t195 = true
   ·subst c7
    rw [if_pos rfl] at H
    have H1 := H
    clear H
    have H := H1
    clear H1
    replace H := Option.bind_eq_some_iff.mp H
    obtain ⟨t196, A80, H⟩ := H
    try dsimp only at H
    have A8 := Aside0.mk A80
    clear A80
    by_cases c9 : t196 = true
    ·subst c9
     rw [if_pos rfl] at H
     have H1 := H
     clear H
     have H := H1
     clear H1
     replace H := Option.bind_eq_some_iff.mp H
     obtain ⟨t197, A100, H⟩ := H
     try dsimp only at H
     have A10 := Aside0.mk A100
     clear A100
     have H' := Aside0.mk H
     clear H
     have hcz11_0 : w3.cell? ⟨gb193, 0, none⟩ = some (.int .i64 a0_0) := (blk_cell BK193.out 0).trans rfl
     have hcz11_1 : w3.cell? ⟨gb193, 1, none⟩ = some (.int .i64 a0_1) := (blk_cell BK193.out 1).trans rfl
     have hcz11_2 : w3.cell? ⟨gb193, 2, none⟩ = some (.slice A0_2 l0_2.length c0_2) := (blk_cell BK193.out 2).trans rfl
     have hcz11_3 : w3.cell? ⟨gb193, 3, none⟩ = some (.slice A0_3 l0_3.length c0_3) := (blk_cell BK193.out 3).trans rfl
     have hfz11_0 := blk_frozen BK193.out 0
     have hfz11_1 := blk_frozen BK193.out 1
     have hfz11_2 := blk_frozen BK193.out 2
     have hfz11_3 := blk_frozen BK193.out 3
     go_wp2_with (first | ((with_reducible refine gate_callee (f := 19) rfl ?_); refine goesL_ (some 8) rfl rfl Tryz.func19 Qh0_ rfl #[.int .i64 a0_0] rfl Qb0_ ?_; (with_reducible refine (impl_isData.calls a0_0 true _ A4.out).mono ?_); rintro e w' ⟨rfl, ⟨nd, rfl⟩⟩; refine ⟨_, rfl, ?_⟩) | (go_at_call 20; (with_reducible refine (impl_isWidth.calls a0_1 true _ A6.out).mono ?_); rintro e w' ⟨rfl, ⟨nd, rfl⟩⟩) | (go_at_call 58; (with_reducible refine (impl_BlockCode_areWords.calls k a0_0 a0_1 _ _ l0_2 _ _ l0_3 _ _ l0_2 2 true _ ?side1 ?side2 ?side3 ?side4 ?side5 ?side6 A8.out).mono ?_); (case side1 => exact Qd1_); (case side2 => exact HC0_2.out); (case side3 => repeat (first | exact (Kd.C_below HR0_3.out (Qg_ GE193.out)) | (with_reducible refine Kd.C_alloc ?_ _) | (with_reducible refine Kd.C_drewN ?_ _) | (with_reducible refine Kd.C_drew ?_))); (case side4 => exact HC0_3.out); (case side5 => exact Qd1_); (case side6 => exact HC0_2.out); rintro e w12 ⟨rfl, hb⟩; have n0_ := Aside0.mk (blk_below (g := gb193) (o := .cells #[.int .i64 a0_0, .int .i64 a0_1, .slice A0_2 l0_2.length c0_2, .slice A0_3 l0_3.length c0_3] 26 (0, 0)) (Qk_ BK193.out) hb); have n1_ := Aside0.mk (below_step (Qg_ GE193.out) hb); clear BK193; clear HB; have BK193 := n0_; have HB := n1_; clear n0_ n1_; (try clear hb); (try clear hb2); (try clear hk); (try clear hi); have hcz13_0 : w12.cell? ⟨gb193, 0, none⟩ = some (.int .i64 a0_0) := (blk_cell BK193.out 0).trans rfl; have hcz13_1 : w12.cell? ⟨gb193, 1, none⟩ = some (.int .i64 a0_1) := (blk_cell BK193.out 1).trans rfl; have hcz13_2 : w12.cell? ⟨gb193, 2, none⟩ = some (.slice A0_2 l0_2.length c0_2) := (blk_cell BK193.out 2).trans rfl; have hcz13_3 : w12.cell? ⟨gb193, 3, none⟩ = some (.slice A0_3 l0_3.length c0_3) := (blk_cell BK193.out 3).trans rfl; have hfz13_0 := blk_frozen BK193.out 0; have hfz13_1 := blk_frozen BK193.out 1; have hfz13_2 := blk_frozen BK193.out 2; have hfz13_3 := blk_frozen BK193.out 3) | (go_at_call 58; (with_reducible refine (impl_BlockCode_areWords.calls k a0_0 a0_1 _ _ l0_2 _ _ l0_3 _ _ l0_3 (-2) t197 _ ?side1 ?side2 ?side3 ?side4 ?side5 ?side6 A10.out).mono ?_); (case side1 => repeat (first | exact (Kd.C_below HR0_2.out HB.out) | (with_reducible refine Kd.C_alloc ?_ _) | (with_reducible refine Kd.C_drewN ?_ _) | (with_reducible refine Kd.C_drew ?_))); (case side2 => exact HC0_2.out); (case side3 => exact Qz0_); (case side4 => exact HC0_3.out); (case side5 => exact Qz0_); (case side6 => exact HC0_3.out); rintro e w14 ⟨rfl, hb⟩; have n0_ := Aside0.mk (blk_below (g := gb193) (o := .cells #[.int .i64 a0_0, .int .i64 a0_1, .slice A0_2 l0_2.length c0_2, .slice A0_3 l0_3.length c0_3] 26 (0, 0)) (Qk_ BK193.out) hb); have n1_ := Aside0.mk (below_step (Qg_ GE193.out) hb); clear BK193; clear HB; have BK193 := n0_; have HB := n1_; clear n0_ n1_; (try clear hb); (try clear hb2); (try clear hk); (try clear hi)))
     go_meet
     case rel => exact ⟨_, (!t197), Qc0_, H', ⟨Qe1_⟩, ⟨Qk_ BK193.out⟩, ⟨Qg_ GE193.out⟩⟩
    ·replace c9 := Bool.eq_false_iff.mpr c9
     subst c9
     rw [if_neg (show ¬ (false = true) by decide)] at H
     have H1 := H
     clear H
     have H := H1
     clear H1
     have H' := Aside0.mk H
     clear H
     have hcz15_0 : w3.cell? ⟨gb193, 0, none⟩ = some (.int .i64 a0_0) := (blk_cell BK193.out 0).trans rfl
     have hcz15_1 : w3.cell? ⟨gb193, 1, none⟩ = some (.int .i64 a0_1) := (blk_cell BK193.out 1).trans rfl
     have hcz15_2 : w3.cell? ⟨gb193, 2, none⟩ = some (.slice A0_2 l0_2.length c0_2) := (blk_cell BK193.out 2).trans rfl
     have hcz15_3 : w3.cell? ⟨gb193, 3, none⟩ = some (.slice A0_3 l0_3.length c0_3) := (blk_cell BK193.out 3).trans rfl
     have hfz15_0 := blk_frozen BK193.out 0
     have hfz15_1 := blk_frozen BK193.out 1
     have hfz15_2 := blk_frozen BK193.out 2
     have hfz15_3 := blk_frozen BK193.out 3
     go_wp2_with (first | ((with_reducible refine gate_callee (f := 19) rfl ?_); refine goesL_ (some 8) rfl rfl Tryz.func19 Qh0_ rfl #[.int .i64 a0_0] rfl Qb0_ ?_; (with_reducible refine (impl_isData.calls a0_0 true _ A4.out).mono ?_); rintro e w' ⟨rfl, ⟨nd, rfl⟩⟩; refine ⟨_, rfl, ?_⟩) | (go_at_call 20; (with_reducible refine (impl_isWidth.calls a0_1 true _ A6.out).mono ?_); rintro e w' ⟨rfl, ⟨nd, rfl⟩⟩) | (go_at_call 58; (with_reducible refine (impl_BlockCode_areWords.calls k a0_0 a0_1 _ _ l0_2 _ _ l0_3 _ _ l0_2 2 false _ ?side1 ?side2 ?side3 ?side4 ?side5 ?side6 A8.out).mono ?_); (case side1 => exact Qd1_); (case side2 => exact HC0_2.out); (case side3 => repeat (first | exact (Kd.C_below HR0_3.out (Qg_ GE193.out)) | (with_reducible refine Kd.C_alloc ?_ _) | (with_reducible refine Kd.C_drewN ?_ _) | (with_reducible refine Kd.C_drew ?_))); (case side4 => exact HC0_3.out); (case side5 => exact Qd1_); (case side6 => exact HC0_2.out); rintro e w16 ⟨rfl, hb⟩; have n0_ := Aside0.mk (blk_below (g := gb193) (o := .cells #[.int .i64 a0_0, .int .i64 a0_1, .slice A0_2 l0_2.length c0_2, .slice A0_3 l0_3.length c0_3] 26 (0, 0)) (Qk_ BK193.out) hb); have n1_ := Aside0.mk (below_step (Qg_ GE193.out) hb); clear BK193; clear HB; have BK193 := n0_; have HB := n1_; clear n0_ n1_; (try clear hb); (try clear hb2); (try clear hk); (try clear hi)))
     go_meet
     case rel => exact ⟨_, (true), Qc0_, H', ⟨Qe1_⟩, ⟨Qk_ BK193.out⟩, ⟨Qg_ GE193.out⟩⟩
   ·replace c7 := Bool.eq_false_iff.mpr c7
    subst c7
    rw [if_neg (show ¬ (false = true) by decide)] at H
    have H1 := H
    clear H
    have H := H1
    clear H1
    have H' := Aside0.mk H
    clear H
    have hcz17_0 : w3.cell? ⟨gb193, 0, none⟩ = some (.int .i64 a0_0) := (blk_cell BK193.out 0).trans rfl
    have hcz17_1 : w3.cell? ⟨gb193, 1, none⟩ = some (.int .i64 a0_1) := (blk_cell BK193.out 1).trans rfl
    have hcz17_2 : w3.cell? ⟨gb193, 2, none⟩ = some (.slice A0_2 l0_2.length c0_2) := (blk_cell BK193.out 2).trans rfl
    have hcz17_3 : w3.cell? ⟨gb193, 3, none⟩ = some (.slice A0_3 l0_3.length c0_3) := (blk_cell BK193.out 3).trans rfl
    have hfz17_0 := blk_frozen BK193.out 0
    have hfz17_1 := blk_frozen BK193.out 1
    have hfz17_2 := blk_frozen BK193.out 2
    have hfz17_3 := blk_frozen BK193.out 3
    go_wp2_with (first | ((with_reducible refine gate_callee (f := 19) rfl ?_); refine goesL_ (some 8) rfl rfl Tryz.func19 Qh0_ rfl #[.int .i64 a0_0] rfl Qb0_ ?_; (with_reducible refine (impl_isData.calls a0_0 true _ A4.out).mono ?_); rintro e w' ⟨rfl, ⟨nd, rfl⟩⟩; refine ⟨_, rfl, ?_⟩) | (go_at_call 20; (with_reducible refine (impl_isWidth.calls a0_1 false _ A6.out).mono ?_); rintro e w' ⟨rfl, ⟨nd, rfl⟩⟩))
    go_meet
    case rel => exact ⟨_, (true), Qc0_, H', ⟨Qe1_⟩, ⟨Qk_ BK193.out⟩, ⟨Qg_ GE193.out⟩⟩
  ·replace c5 := Bool.eq_false_iff.mpr c5
   subst c5
   rw [if_neg (show ¬ (false = true) by decide)] at H
   have H1 := H
   clear H
   have H := H1
   clear H1
   have H' := Aside0.mk H
   clear H
   have hcz18_0 : w3.cell? ⟨gb193, 0, none⟩ = some (.int .i64 a0_0) := (blk_cell BK193.out 0).trans rfl
   have hcz18_1 : w3.cell? ⟨gb193, 1, none⟩ = some (.int .i64 a0_1) := (blk_cell BK193.out 1).trans rfl
   have hcz18_2 : w3.cell? ⟨gb193, 2, none⟩ = some (.slice A0_2 l0_2.length c0_2) := (blk_cell BK193.out 2).trans rfl
   have hcz18_3 : w3.cell? ⟨gb193, 3, none⟩ = some (.slice A0_3 l0_3.length c0_3) := (blk_cell BK193.out 3).trans rfl
   have hfz18_0 := blk_frozen BK193.out 0
   have hfz18_1 := blk_frozen BK193.out 1
   have hfz18_2 := blk_frozen BK193.out 2
   have hfz18_3 := blk_frozen BK193.out 3
   go_wp2_with (first | ((with_reducible refine gate_callee (f := 19) rfl ?_); refine goesL_ (some 8) rfl rfl Tryz.func19 Qh0_ rfl #[.int .i64 a0_0] rfl Qb0_ ?_; (with_reducible refine (impl_isData.calls a0_0 false _ A4.out).mono ?_); rintro e w' ⟨rfl, ⟨nd, rfl⟩⟩; refine ⟨_, rfl, ?_⟩))
   go_meet
   case rel => exact ⟨_, (true), Qc0_, H', ⟨Qe1_⟩, ⟨Qk_ BK193.out⟩, ⟨Qg_ GE193.out⟩⟩
 case rest =>
  clear HC2
  try clear c1
  try clear c2
  try clear p2
  try clear c5
  try clear c7
  try clear c9
  try clear hcz11_0
  try clear hcz11_1
  try clear hcz11_2
  try clear hcz11_3
  try clear hcz13_0
  try clear hcz13_1
  try clear hcz13_2
  try clear hcz13_3
  try clear hcz15_0
  try clear hcz15_1
  try clear hcz15_2
  try clear hcz15_3
  try clear hcz17_0
  try clear hcz17_1
  try clear hcz17_2
  try clear hcz17_3
  try clear hcz18_0
  try clear hcz18_1
  try clear hcz18_2
  try clear hcz18_3
  try clear hfz11_0
  try clear hfz11_1
  try clear hfz11_2
  try clear hfz11_3
  try clear hfz13_0
  try clear hfz13_1
  try clear hfz13_2
  try clear hfz13_3
  try clear hfz15_0
  try clear hfz15_1
  try clear hfz15_2
  try clear hfz15_3
  try clear hfz17_0
  try clear hfz17_1
  try clear hfz17_2
  try clear hfz17_3
  try clear hfz18_0
  try clear hfz18_1
  try clear hfz18_2
  try clear hfz18_3
  obtain ⟨kq, x29_1, rfl, HA, HJ1, BK193, HB⟩ := hcut
  cases kq with
  | zero => exact absurd HA.out (by simp [impl_ValidBlockCode.j0])
  | succ kj1 =>
   have H := HA.out
   clear HA
   simp only [impl_ValidBlockCode.j0] at H
   by_cases c19 : x29_1 = true
   ·subst c19
    rw [if_pos rfl] at H
    have H1 := H
    clear H
    have H := H1
    clear H1
    obtain rfl := Option.some.inj H
    go_wp2
    go_ret
    exact ⟨Qd0_, Qg_ GE193.out⟩
   ·replace c19 := Bool.eq_false_iff.mpr c19
    subst c19
    rw [if_neg (show ¬ (false = true) by decide)] at H
    have H1 := H
    clear H
    have H := H1
    clear H1
    have H' := Aside0.mk H
    clear H
    have hcz20_0 : wc.cell? ⟨gb193, 0, none⟩ = some (.int .i64 a0_0) := (blk_cell BK193.out 0).trans rfl
    have hcz20_1 : wc.cell? ⟨gb193, 1, none⟩ = some (.int .i64 a0_1) := (blk_cell BK193.out 1).trans rfl
    have hcz20_2 : wc.cell? ⟨gb193, 2, none⟩ = some (.slice A0_2 l0_2.length c0_2) := (blk_cell BK193.out 2).trans rfl
    have hcz20_3 : wc.cell? ⟨gb193, 3, none⟩ = some (.slice A0_3 l0_3.length c0_3) := (blk_cell BK193.out 3).trans rfl
    have hfz20_0 := blk_frozen BK193.out 0
    have hfz20_1 := blk_frozen BK193.out 1
    have hfz20_2 := blk_frozen BK193.out 2
    have hfz20_3 := blk_frozen BK193.out 3
    go_wp2
    go_loopg [33] kj1 (fun kq v33 w' => ∃ (x33_2 : Int), v33 = .int .i64 x33_2 ∧ Aside0 (impl_ValidBlockCode.l0 kq l0_2 (l0_2.length : Int) x33_2 a0_0 a0_1 l0_2 l0_3 = some r) ∧ Aside0 (kq ≤ kj1) ∧ Aside0 (w'.heap[gb193]? = some (.cells #[.int .i64 a0_0, .int .i64 a0_1, (.slice A0_2 l0_2.length c0_2), (.slice A0_3 l0_3.length c0_3)] 26 (0, 0))) ∧ Aside0 (Below w.heap.size w w'))
    case atStart => exact ⟨(0), Qc0_, H', ⟨Nat.le_refl _⟩, ⟨Qk_ BK193.out⟩, ⟨Qg_ GE193.out⟩⟩
    case round =>
     clear H'
     try clear c1
     try clear c2
     try clear p2
     try clear c5
     try clear c7
     try clear c9
     try clear c19
     try clear hcz11_0
     try clear hcz11_1
     try clear hcz11_2
     try clear hcz11_3
     try clear hcz13_0
     try clear hcz13_1
     try clear hcz13_2
     try clear hcz13_3
     try clear hcz15_0
     try clear hcz15_1
     try clear hcz15_2
     try clear hcz15_3
     try clear hcz17_0
     try clear hcz17_1
     try clear hcz17_2
     try clear hcz17_3
     try clear hcz18_0
     try clear hcz18_1
     try clear hcz18_2
     try clear hcz18_3
     try clear hcz20_0
     try clear hcz20_1
     try clear hcz20_2
     try clear hcz20_3
     try clear hfz11_0
     try clear hfz11_1
     try clear hfz11_2
     try clear hfz11_3
     try clear hfz13_0
     try clear hfz13_1
     try clear hfz13_2
     try clear hfz13_3
     try clear hfz15_0
     try clear hfz15_1
     try clear hfz15_2
     try clear hfz15_3
     try clear hfz17_0
     try clear hfz17_1
     try clear hfz17_2
     try clear hfz17_3
     try clear hfz18_0
     try clear hfz18_1
     try clear hfz18_2
     try clear hfz18_3
     try clear hfz20_0
     try clear hfz20_1
     try clear hfz20_2
     try clear hfz20_3
     try clear p2
     obtain ⟨x33_2, rfl, HA, HK2, BK193, HB⟩ := hrel
     cases gk with
     | zero => exact absurd HA.out (by simp [impl_ValidBlockCode.l0])
     | succ k2 =>
      have H := HA.out
      clear HA
      simp only [impl_ValidBlockCode.l0] at H
      by_cases c21 : x33_2 < (l0_2.length : Int)
      ·rw [if_pos c21] at H
       have c21b0 := decide_eq_true c21
       clear c21
       by_cases c22 : 0 ≤ x33_2
       ·rw [if_pos c22] at H
        have c22b0 := decide_eq_true c22
        clear c22
        by_cases c23 : x33_2 < (l0_2.length : Int)
        ·rw [if_pos c23] at H
         have c23b0 := decide_eq_true c23
         clear c23
         replace H := Option.bind_eq_some_iff.mp H
         obtain ⟨t199, A240, H⟩ := H
         try dsimp only at H
         have A24 := Aside0.mk A240
         clear A240
         by_cases c25 : t199 ≥ 0
         ·rw [if_pos c25] at H
          have c25b0 := decide_eq_true c25
          clear c25
          by_cases c26 : t199 = x33_2
          ·rw [if_pos c26] at H
           have c26b0 := beq_iff_eq.mpr c26
           have c26b1 := bne_eq_false_iff_eq.mpr c26
           clear c26
           have H' := Aside0.mk H
           clear H
           have p198 : 0 ≤ (x33_2 : Int) := of_decide_eq_true Qe0_
           have q198 : x33_2 < (l0_2.length : Int) := of_decide_eq_true Qe0_
           obtain ⟨ad198, e198, hx198_0⟩ := Kd.at_string HR0_2.out x33_2 p198 q198
           cases e198
           replace hx198_0 := (HB.out.cell (World.block_lt_of_cell? w _ hx198_0)).trans hx198_0
           replace p198 := eq_true p198
           replace q198 := eq_true q198
           have hcz27_0 : wr.cell? ⟨gb193, 0, none⟩ = some (.int .i64 a0_0) := (blk_cell BK193.out 0).trans rfl
           have hcz27_1 : wr.cell? ⟨gb193, 1, none⟩ = some (.int .i64 a0_1) := (blk_cell BK193.out 1).trans rfl
           have hcz27_2 : wr.cell? ⟨gb193, 2, none⟩ = some (.slice (some ad198) l0_2.length c0_2) := (blk_cell BK193.out 2).trans rfl
           have hcz27_3 : wr.cell? ⟨gb193, 3, none⟩ = some (.slice A0_3 l0_3.length c0_3) := (blk_cell BK193.out 3).trans rfl
           have hfz27_0 := blk_frozen BK193.out 0
           have hfz27_1 := blk_frozen BK193.out 1
           have hfz27_2 := blk_frozen BK193.out 2
           have hfz27_3 := blk_frozen BK193.out 3
           go_wp2_with (first | ((with_reducible refine gate_callee (f := 59) rfl ?_); refine goesL_ (some 41) rfl rfl Tryz.func59 Qh0_ rfl #[.slice A0_3 l0_3.length c0_3, .string (rdOf ByteArray.empty l0_2 x33_2)] rfl Qb0_ ?_; (with_reducible refine (slices_Index_string_string.calls k2 _ _ l0_3 (rdOf ByteArray.empty l0_2 x33_2) t199 _ ?side1 ?side2 A24.out).mono ?_); (case side1 => exact Qz0_); (case side2 => exact HC0_3.out); rintro e w' ⟨rfl, ⟨nd, rfl⟩⟩; refine ⟨_, rfl, ?_⟩))
           go_roundg k2
           case measure => have := HJ1.out; have := HK2.out; omega
           case rel => exact ⟨(wrap64 (x33_2 + 1)), Qc0_, H', ⟨by have := HJ1.out; have := HK2.out; omega⟩, ⟨Qk_ BK193.out⟩, ⟨Qg_ GE193.out⟩⟩
          ·rw [if_neg c26] at H
           have c26b0 := beq_eq_false_iff_ne.mpr c26
           have c26b1 := bne_iff_ne.mpr c26
           obtain rfl := Option.some.inj H
           have p198 : 0 ≤ (x33_2 : Int) := of_decide_eq_true Qe0_
           have q198 : x33_2 < (l0_2.length : Int) := of_decide_eq_true Qe0_
           obtain ⟨ad198, e198, hx198_0⟩ := Kd.at_string HR0_2.out x33_2 p198 q198
           cases e198
           replace hx198_0 := (HB.out.cell (World.block_lt_of_cell? w _ hx198_0)).trans hx198_0
           replace p198 := eq_true p198
           replace q198 := eq_true q198
           have hcz28_0 : wr.cell? ⟨gb193, 0, none⟩ = some (.int .i64 a0_0) := (blk_cell BK193.out 0).trans rfl
           have hcz28_1 : wr.cell? ⟨gb193, 1, none⟩ = some (.int .i64 a0_1) := (blk_cell BK193.out 1).trans rfl
           have hcz28_2 : wr.cell? ⟨gb193, 2, none⟩ = some (.slice (some ad198) l0_2.length c0_2) := (blk_cell BK193.out 2).trans rfl
           have hcz28_3 : wr.cell? ⟨gb193, 3, none⟩ = some (.slice A0_3 l0_3.length c0_3) := (blk_cell BK193.out 3).trans rfl
           have hfz28_0 := blk_frozen BK193.out 0
           have hfz28_1 := blk_frozen BK193.out 1
           have hfz28_2 := blk_frozen BK193.out 2
           have hfz28_3 := blk_frozen BK193.out 3
           go_wp2_with (first | ((with_reducible refine gate_callee (f := 59) rfl ?_); refine goesL_ (some 41) rfl rfl Tryz.func59 Qh0_ rfl #[.slice A0_3 l0_3.length c0_3, .string (rdOf ByteArray.empty l0_2 x33_2)] rfl Qb0_ ?_; (with_reducible refine (slices_Index_string_string.calls k2 _ _ l0_3 (rdOf ByteArray.empty l0_2 x33_2) t199 _ ?side1 ?side2 A24.out).mono ?_); (case side1 => exact Qz0_); (case side2 => exact HC0_3.out); rintro e w' ⟨rfl, ⟨nd, rfl⟩⟩; refine ⟨_, rfl, ?_⟩))
           go_ret
           exact ⟨Qd0_, Qg_ GE193.out⟩
         ·rw [if_neg c25] at H
          have c25b0 := decide_eq_false c25
          clear c25
          have H' := Aside0.mk H
          clear H
          have p198 : 0 ≤ (x33_2 : Int) := of_decide_eq_true Qe0_
          have q198 : x33_2 < (l0_2.length : Int) := of_decide_eq_true Qe0_
          obtain ⟨ad198, e198, hx198_0⟩ := Kd.at_string HR0_2.out x33_2 p198 q198
          cases e198
          replace hx198_0 := (HB.out.cell (World.block_lt_of_cell? w _ hx198_0)).trans hx198_0
          replace p198 := eq_true p198
          replace q198 := eq_true q198
          have hcz29_0 : wr.cell? ⟨gb193, 0, none⟩ = some (.int .i64 a0_0) := (blk_cell BK193.out 0).trans rfl
          have hcz29_1 : wr.cell? ⟨gb193, 1, none⟩ = some (.int .i64 a0_1) := (blk_cell BK193.out 1).trans rfl
          have hcz29_2 : wr.cell? ⟨gb193, 2, none⟩ = some (.slice (some ad198) l0_2.length c0_2) := (blk_cell BK193.out 2).trans rfl
          have hcz29_3 : wr.cell? ⟨gb193, 3, none⟩ = some (.slice A0_3 l0_3.length c0_3) := (blk_cell BK193.out 3).trans rfl
          have hfz29_0 := blk_frozen BK193.out 0
          have hfz29_1 := blk_frozen BK193.out 1
          have hfz29_2 := blk_frozen BK193.out 2
          have hfz29_3 := blk_frozen BK193.out 3
          go_wp2_with (first | ((with_reducible refine gate_callee (f := 59) rfl ?_); refine goesL_ (some 41) rfl rfl Tryz.func59 Qh0_ rfl #[.slice A0_3 l0_3.length c0_3, .string (rdOf ByteArray.empty l0_2 x33_2)] rfl Qb0_ ?_; (with_reducible refine (slices_Index_string_string.calls k2 _ _ l0_3 (rdOf ByteArray.empty l0_2 x33_2) t199 _ ?side1 ?side2 A24.out).mono ?_); (case side1 => exact Qz0_); (case side2 => exact HC0_3.out); rintro e w' ⟨rfl, ⟨nd, rfl⟩⟩; refine ⟨_, rfl, ?_⟩))
          go_roundg k2
          case measure => have := HJ1.out; have := HK2.out; omega
          case rel => exact ⟨(wrap64 (x33_2 + 1)), Qc0_, H', ⟨by have := HJ1.out; have := HK2.out; omega⟩, ⟨Qk_ BK193.out⟩, ⟨Qg_ GE193.out⟩⟩
        ·rw [if_neg c23] at H
         exact absurd H (by simp)
       ·rw [if_neg c22] at H
        exact absurd H (by simp)
      ·rw [if_neg c21] at H
       have c21b0 := decide_eq_false c21
       clear c21
       obtain rfl := Option.some.inj H
       go_wp2
       go_ret
       exact ⟨Qd0_, Qg_ GE193.out⟩
def impl_isLineState.f (a0 : Int) : Option (Bool) := if a0 = (-1) then (some true) else (some (a0 == 1))
set_option maxHeartbeats 8000000 in
set_option maxRecDepth 100000 in
theorem impl_isLineState.calls (a0 : Int) (r : Bool) (w : World) (h : impl_isLineState.f a0 = some r) :
 Calls Tryz.prog 29 #[.int .i64 a0] w fun e w' => e = .returned (.bool r) ∧ Drawn0 w w' := by
 have H : (if a0 = (-1) then (some true) else (some (a0 == 1))) = some r := h
 clear h
 by_cases c2 : a0 = (-1)
 ·rw [if_pos c2] at H
  have c2b0 := beq_iff_eq.mpr c2
  have c2b1 := bne_eq_false_iff_eq.mpr c2
  clear c2
  obtain rfl := Option.some.inj H
  go_enter Tryz.func29, Tryz.ntmps29
  go_wp2
  go_ret
  exact ⟨Qc0_, Qf0_⟩
 ·rw [if_neg c2] at H
  have c2b0 := beq_eq_false_iff_ne.mpr c2
  have c2b1 := bne_iff_ne.mpr c2
  obtain rfl := Option.some.inj H
  go_enter Tryz.func29, Tryz.ntmps29
  go_wp2
  go_ret
  exact ⟨Qc0_, Qf0_⟩
def impl_stateBehind.f (a0 : Int) (a1 : ByteArray) : Option (Int) := (impl_disparity.f a1).bind fun t200 => (if t200 > 0 then (some 1) else (if t200 < 0 then (some (-1)) else (some a0)))
set_option maxHeartbeats 8000000 in
set_option maxRecDepth 100000 in
theorem impl_stateBehind.calls (a0 : Int) (a1 : ByteArray) (r : Int) (w : World) (h : impl_stateBehind.f a0 a1 = some r) :
 Calls Tryz.prog 31 #[.int .i64 a0, .string a1] w fun e w' => e = .returned (.int .i64 r) ∧ Drawn0 w w' := by
 have H : ((impl_disparity.f a1).bind fun t200 => (if t200 > 0 then (some 1) else (if t200 < 0 then (some (-1)) else (some a0)))) = some r := h
 clear h
 replace H := Option.bind_eq_some_iff.mp H
 obtain ⟨t200, A30, H⟩ := H
 try dsimp only at H
 have A3 := Aside0.mk A30
 clear A30
 by_cases c4 : t200 > 0
 ·rw [if_pos c4] at H
  have c4b0 := decide_eq_true c4
  clear c4
  obtain rfl := Option.some.inj H
  go_enter Tryz.func31, Tryz.ntmps31
  go_wp2_with (first | ((with_reducible refine gate_callee (f := 54) rfl ?_); refine goesL_ (some 7) rfl rfl Tryz.func54 Qh0_ rfl #[.string a1] rfl Qb0_ ?_; (with_reducible refine (impl_disparity.calls a1 t200 _ A3.out).mono ?_); rintro e w' ⟨rfl, ⟨nd, rfl⟩⟩; refine ⟨_, rfl, ?_⟩))
  go_ret
  exact ⟨Qc0_, Qf0_⟩
 ·rw [if_neg c4] at H
  have c4b0 := decide_eq_false c4
  clear c4
  by_cases c5 : t200 < 0
  ·rw [if_pos c5] at H
   have c5b0 := decide_eq_true c5
   clear c5
   obtain rfl := Option.some.inj H
   go_enter Tryz.func31, Tryz.ntmps31
   go_wp2_with (first | ((with_reducible refine gate_callee (f := 54) rfl ?_); refine goesL_ (some 7) rfl rfl Tryz.func54 Qh0_ rfl #[.string a1] rfl Qb0_ ?_; (with_reducible refine (impl_disparity.calls a1 t200 _ A3.out).mono ?_); rintro e w' ⟨rfl, ⟨nd, rfl⟩⟩; refine ⟨_, rfl, ?_⟩))
   go_ret
   exact ⟨Qc0_, Qf0_⟩
  ·rw [if_neg c5] at H
   have c5b0 := decide_eq_false c5
   clear c5
   obtain rfl := Option.some.inj H
   go_enter Tryz.func31, Tryz.ntmps31
   go_wp2_with (first | ((with_reducible refine gate_callee (f := 54) rfl ?_); refine goesL_ (some 7) rfl rfl Tryz.func54 Qh0_ rfl #[.string a1] rfl Qb0_ ?_; (with_reducible refine (impl_disparity.calls a1 t200 _ A3.out).mono ?_); rintro e w' ⟨rfl, ⟨nd, rfl⟩⟩; refine ⟨_, rfl, ?_⟩))
   go_ret
   exact ⟨Qc0_, Qf0_⟩
end Go.Proofs.YtdnjebnmianogaaGreatDoor.QFnTop
