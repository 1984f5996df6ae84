/- Made small by wip/pack.py: lemmas and contracts that the law's row leans on. -/
import Derived.Test.YtbjmbfjbjkhhdaaGreatDoorZFnTopOfAll27
import Derived.Test.YtbjmbfjbjkhhdaaGreatDoorZFnTopOfAll28
import Derived.Test.YtbjmbfjbjkhhdaaGreatDoorZFnTopOfAll29
import Derived.Test.YtbjmbfjbjkhhdaaGreatDoorZFnTopOfAll30
import Derived.Test.YtbjmbfjbjkhhdaaGreatDoorZFnTopOfAll31
import Derived.Test.YtbjmbfjbjkhhdaaGreatDoorZFnTopOfAll34
namespace Go.Proofs.YtbjmbfjbjkhhdaaGreatDoor.QFnTopOfAll
open Go.RowKit Go.Proofs.YtbjmbfjbjkhhdaaGreatDoorW.PrintWords Go.Proofs.YtbjmbfjbjkhhdaaGreatDoorW.PrintLast Go.Proofs.YtbjmbfjbjkhhdaaGreatDoorW.PrintMore
attribute [local go_sem] max2_int min2_int max_two min_two max_three min_three max_four min_four
set_option linter.unusedVariables false
set_option linter.unusedSimpArgs false
theorem db_row {w w1 : World} {base : Nat} {v : Value} {xs : List Int} (h : Kd.R (Kd.int .i64) 2 w base (fun _ => True) v xs) (hm : ∀ k, v.ownBlock = some k → w1.heap[k]? = w.heap[k]?) : Kd.R (Kd.int .i64) 2 w1 base (fun _ => True) v xs :=
 Kd.R_of_own (own_move (Kd.own_of_R h) hm) (fun _ _ => trivial)
theorem db_lt {w : World} {base : Nat} {v : Value} {xs : List Int} (h : Kd.R (Kd.int .i64) 2 w base (fun _ => True) v xs) : ∀ k, v.ownBlock = some k → k < w.heap.size := fun k hk => own_lt (Kd.own_of_R h) k hk
theorem db_ne {w : World} {base b : Nat} {v : Value} {xs : List Int} {cells : Array Value} (h : Kd.R (Kd.int .i64) 2 w base (fun _ => True) v xs) (hb : w.heap[b]? = some (.cells cells 25 (0, 0))) : v.ownBlock ≠ some b := fun e => Kd.R_ne h hb (by decide) e.symm
def DbI (w w' : World) (gb : Nat) (cs : Array Value) (vd vw : Value) (da wr : List Int) : Prop :=
 EbI w w' gb cs ∧ Kd.R (Kd.int .i64) 2 w' w.heap.size (fun _ => True) vd da ∧ Kd.R (Kd.int .i64) 2 w' w.heap.size (fun _ => True) vw wr ∧ ∀ k, vd.ownBlock = some k → vw.ownBlock ≠ some k
theorem DbI.below {w w1 w2 : World} {gb : Nat} {cs : Array Value} {vd vw : Value} {da wr : List Int} (h : DbI w w1 gb cs vd vw da wr) (hB : Below w1.heap.size w1 w2) : DbI w w2 gb cs vd vw da wr :=
 ⟨h.1.below hB, db_row h.2.1 (fun k hk => hB.block k (db_lt h.2.1 k hk)), db_row h.2.2.1 (fun k hk => hB.block k (db_lt h.2.2.1 k hk)), h.2.2.2⟩
theorem DbI.drewN {w w1 : World} {gb : Nat} {cs : Array Value} {vd vw : Value} {da wr : List Int} (h : DbI w w1 gb cs vd vw da wr) (n : Nat) : DbI w (w1.drewN n) gb cs vd vw da wr := h.below (pw_below_drewN (Below.refl _ _) n)
theorem DbI.wrong {w w1 w2 : World} {gb : Nat} {cs : Array Value} {vd vw vw2 : Value} {da wr wr2 : List Int} (h : DbI w w1 gb cs vd vw da wr) (ho : Kd.R (Kd.int .i64) 2 w2 w.heap.size (fun _ => True) vw2 wr2) (hb : Below w.heap.size w w2) (hg : w1.grownBy w2 vw.ownBlock) (hat : vw2.ownBlock = vw.ownBlock ∨ ∃ b, vw2.ownBlock = some b ∧ w1.heap.size ≤ b) : DbI w w2 gb cs vd vw2 da wr2 := by
 refine ⟨⟨(hg.block gb (blk_lt h.1.1) (fun e => db_ne h.2.2.1 h.1.1 e.symm)).trans h.1.1, hb⟩, db_row h.2.1 (fun k hk => hg.block k (db_lt h.2.1 k hk) (fun e => h.2.2.2 k hk e.symm)), ho, fun k h1 h2 => ?_⟩
 rcases hat with h3 | ⟨b, h3, h4⟩
 ·exact h.2.2.2 k h1 (h3.symm.trans h2)
 ·rw [h2] at h3
  cases h3
  have := db_lt h.2.1 k h1
  omega
theorem DbI.data {w w1 w2 : World} {gb : Nat} {cs : Array Value} {vd vw vd2 : Value} {da wr da2 : List Int} (h : DbI w w1 gb cs vd vw da wr) (ho : Kd.R (Kd.int .i64) 2 w2 w.heap.size (fun _ => True) vd2 da2) (hb : Below w.heap.size w w2) (hg : w1.grownBy w2 vd.ownBlock) (hat : vd2.ownBlock = vd.ownBlock ∨ ∃ b, vd2.ownBlock = some b ∧ w1.heap.size ≤ b) : DbI w w2 gb cs vd2 vw da2 wr := by
 refine ⟨⟨(hg.block gb (blk_lt h.1.1) (fun e => db_ne h.2.1 h.1.1 e.symm)).trans h.1.1, hb⟩, ho, db_row h.2.2.1 (fun k hk => hg.block k (db_lt h.2.2.1 k hk) (fun e => h.2.2.2 k e.symm hk)), fun k h1 h2 => ?_⟩
 rcases hat with h3 | ⟨b, h3, h4⟩
 ·exact h.2.2.2 k (h3.symm.trans h1) h2
 ·rw [h1] at h3
  cases h3
  have := db_lt h.2.2.1 k h2
  omega
def impl_DecodeBlocks.l0 : Nat → Int → List ByteArray → List ByteArray → ByteArray → Int → List Int → List Int → Option (List Int × List Int × Int × Bool)
 | 0, _, _, _, _, _, _, _ => none
 | k + 1, wd, mi, pl, s, st, da, wr => if (s.size : Int) > 0 then (if wd ≤ (s.size : Int) then (if da.length < 1000 ∧ wr.length < 1000 then ((slices_Index_string_string.f k (if st < 0 then mi else pl) (s.extract 0 (wd : Int).toNat)).bind fun n => (if n < 0 then ((slices_Index_string_string.f k (if st < 0 then pl else mi) (s.extract 0 (wd : Int).toNat)).bind fun n2 => ((impl_stateBehind.f st (s.extract 0 (wd : Int).toNat)).bind fun t => (impl_DecodeBlocks.l0 k wd mi pl (s.extract (wd : Int).toNat s.size) t (da ++ [n2]) (wr ++ [(da.length : Int)])))) else ((impl_stateBehind.f st (s.extract 0 (wd : Int).toNat)).bind fun t => (impl_DecodeBlocks.l0 k wd mi pl (s.extract (wd : Int).toNat s.size) t (da ++ [n]) wr)))) else (none)) else (none)) else (some (da, wr, st, true))
def impl_DecodeBlocks.f (k : Nat) (a0_0 a0_1 : Int) (l0_2 l0_3 : List ByteArray) (a1 : Int) (a2 : ByteArray) : Option (List Int × List Int × Int × Bool) := (impl_ValidBlockCode.f k a0_0 a0_1 l0_2 l0_3).bind fun t1 => (if t1 = true then (if 1 ≤ a0_1 ∧ a0_1 ≤ 1000 then ((impl_isLineState.f a1).bind fun t2 => (if t2 = true then ((impl_IsBits.f a2).bind fun t3 => (if t3 = true then (if (a2.size : Int) % a0_1 = 0 then (impl_DecodeBlocks.l0 k a0_1 l0_2 l0_3 a2 a1 [] []) else (some (([] : List Int), ([] : List Int), (0 : Int), false))) else (some (([] : List Int), ([] : List Int), (0 : Int), false)))) else (some (([] : List Int), ([] : List Int), (0 : Int), false)))) else none) else (some (([] : List Int), ([] : List Int), (0 : Int), false)))
set_option maxHeartbeats 8000000 in
set_option maxRecDepth 100000 in
theorem impl_DecodeBlocks.calls (k : Nat) (a0_0 : Int) (a0_1 : Int) (A0_2 : Option Addr) (c0_2 : Nat) (l0_2 : List ByteArray) (A0_3 : Option Addr) (c0_3 : Nat) (l0_3 : List ByteArray) (a1 : Int) (a2 : ByteArray) (r1 r2 : List Int) (r3 : Int) (r4 : Bool) (w : World) (hr0_2 : Kd.C Kd.string w A0_2 l0_2.length l0_2) (hc0_2 : l0_2.length ≤ c0_2) (hr0_3 : Kd.C Kd.string w A0_3 l0_3.length l0_3) (hc0_3 : l0_3.length ≤ c0_3) (h : impl_DecodeBlocks.f k a0_0 a0_1 l0_2 l0_3 a1 a2 = some (r1, r2, r3, r4)) :
 Calls Tryz.prog 155 #[.agg #[.int .i64 a0_0, .int .i64 a0_1, .slice A0_2 l0_2.length c0_2, .slice A0_3 l0_3.length c0_3], .int .i64 a1, .string a2] w fun e w' => ∃ v0_ v1_ : Value, e = .returned (.tuple #[v0_, v1_, .int .i64 r3, .bool r4]) ∧ Kd.R (Kd.int .i64) 2 w' w.heap.size (fun k_ => some k_ ≠ (v1_ : Value).ownBlock) v0_ r1 ∧ Kd.R (Kd.int .i64) 2 w' w.heap.size (fun k_ => some k_ ≠ (v0_ : Value).ownBlock) v1_ r2 ∧ Below w.heap.size w w' := by
 have hu66 := Tryz.underlying25
 have HR0_2 := Aside0.mk hr0_2
 have HC0_2 := Aside0.mk hc0_2
 have HR0_3 := Aside0.mk hr0_3
 have HC0_3 := Aside0.mk hc0_3
 have HB := Aside0.mk (Below.refl w.heap.size w)
 clear hr0_2 hc0_2 hr0_3 hc0_3
 unfold impl_DecodeBlocks.f at h
 obtain ⟨t1, A1, h⟩ := Option.bind_eq_some_iff.mp h
 have A1_ := Aside0.mk A1
 clear A1
 cases t1 with
 | false =>
  replace h : some (([] : List Int), ([] : List Int), (0 : Int), false) = some (r1, r2, r3, r4) := h
  simp only [Option.some.injEq, Prod.mk.injEq] at h
  obtain ⟨rfl, rfl, rfl, rfl⟩ := h
  go_enter Tryz.func155, Tryz.ntmps155
  go_wp2_with (first | ((with_reducible refine gate_dst (N := 3) rfl ?_); (try (refine gate_guard (by rfl) ?_; dsimp only)); refine box_event ?hg (N := 3) ?hd (cs := #[.int .i64 a0_0, .int .i64 a0_1, .slice A0_2 l0_2.length c0_2, .slice A0_3 l0_3.length c0_3]) (t := 25) ?hr ?_; (case hd => rfl); (case hg => rfl); (case hr => exact Qh0_); intro gb hggb w3 hbox hb; have n0_ := Aside0.mk (below_step Qa0_ hb); have n1_ := Aside0.mk (hbox); clear HB; have HB := n0_; have BKgb := n1_; clear n0_ n1_; clear hb hbox hggb; have hczgb0 : w3.cell? ⟨gb, 0, none⟩ = some (.int .i64 a0_0) := (blk_cell BKgb.out 0).trans rfl; have hczgb1 : w3.cell? ⟨gb, 1, none⟩ = some (.int .i64 a0_1) := (blk_cell BKgb.out 1).trans rfl; have hczgb2 : w3.cell? ⟨gb, 2, none⟩ = some (.slice A0_2 l0_2.length c0_2) := (blk_cell BKgb.out 2).trans rfl; have hczgb3 : w3.cell? ⟨gb, 3, none⟩ = some (.slice A0_3 l0_3.length c0_3) := (blk_cell BKgb.out 3).trans rfl) | (go_at_call 28; (with_reducible refine (impl_ValidBlockCode.calls k a0_0 a0_1 A0_2 c0_2 l0_2 A0_3 c0_3 l0_3 false _ ?v1 ?v2 ?v3 ?v4 A1_.out).mono ?_); (case v1 => exact Kd.C_below HR0_2.out HB.out); (case v2 => exact HC0_2.out); (case v3 => exact Kd.C_below HR0_3.out HB.out); (case v4 => exact HC0_3.out); rintro e w4 ⟨rfl, hb4⟩; have HI := Aside0.mk (EbI.below ⟨BKgb.out, HB.out⟩ hb4); clear hb4; have hcw0 : w4.cell? ⟨gb, 0, none⟩ = some (.int .i64 a0_0) := (blk_cell HI.out.1 0).trans rfl; have hcw1 : w4.cell? ⟨gb, 1, none⟩ = some (.int .i64 a0_1) := (blk_cell HI.out.1 1).trans rfl))
  refine bodyPost_ret (v := .tuple #[.slice none 0 0, .slice none 0 0, .int .i64 0, .bool false]) (by simp [results, Tryz.results155, go_sem]) rfl ?_
  exact ⟨_, _, rfl, Kd.R_nil _ _ _ _ _, Kd.R_nil _ _ _ _ _, HI.out.2⟩
 | true =>
 rw [if_pos rfl] at h
 by_cases c0 : 1 ≤ a0_1 ∧ a0_1 ≤ 1000
 rotate_left
 ·rw [if_neg c0] at h
  cases h
 rw [if_pos c0] at h
 have c0b2 : (a0_1 == 0) = false := beq_eq_false_iff_ne.2 (by omega)
 have c0b3 : a0_1 ≠ 0 := by omega
 have c0b4 : 1 ≤ a0_1 := c0.1
 have c0b5 : a0_1 ≤ 1000 := c0.2
 have c0b6 : decide (0 ≤ a0_1) = true := decide_eq_true (by omega)
 have c0b7 := eq_true (show 0 ≤ a0_1 by omega)
 have CW := Aside0.mk c0
 clear c0
 obtain ⟨t2, A2, h⟩ := Option.bind_eq_some_iff.mp h
 have A2_ := Aside0.mk A2
 clear A2
 cases t2 with
 | false =>
  replace h : some (([] : List Int), ([] : List Int), (0 : Int), false) = some (r1, r2, r3, r4) := h
  simp only [Option.some.injEq, Prod.mk.injEq] at h
  obtain ⟨rfl, rfl, rfl, rfl⟩ := h
  go_enter Tryz.func155, Tryz.ntmps155
  go_wp2_with (first | ((with_reducible refine gate_dst (N := 3) rfl ?_); (try (refine gate_guard (by rfl) ?_; dsimp only)); refine box_event ?hg (N := 3) ?hd (cs := #[.int .i64 a0_0, .int .i64 a0_1, .slice A0_2 l0_2.length c0_2, .slice A0_3 l0_3.length c0_3]) (t := 25) ?hr ?_; (case hd => rfl); (case hg => rfl); (case hr => exact Qh0_); intro gb hggb w3 hbox hb; have n0_ := Aside0.mk (below_step Qa0_ hb); have n1_ := Aside0.mk (hbox); clear HB; have HB := n0_; have BKgb := n1_; clear n0_ n1_; clear hb hbox hggb; have hczgb0 : w3.cell? ⟨gb, 0, none⟩ = some (.int .i64 a0_0) := (blk_cell BKgb.out 0).trans rfl; have hczgb1 : w3.cell? ⟨gb, 1, none⟩ = some (.int .i64 a0_1) := (blk_cell BKgb.out 1).trans rfl; have hczgb2 : w3.cell? ⟨gb, 2, none⟩ = some (.slice A0_2 l0_2.length c0_2) := (blk_cell BKgb.out 2).trans rfl; have hczgb3 : w3.cell? ⟨gb, 3, none⟩ = some (.slice A0_3 l0_3.length c0_3) := (blk_cell BKgb.out 3).trans rfl) | (go_at_call 28; (with_reducible refine (impl_ValidBlockCode.calls k a0_0 a0_1 A0_2 c0_2 l0_2 A0_3 c0_3 l0_3 true _ ?v1 ?v2 ?v3 ?v4 A1_.out).mono ?_); (case v1 => exact Kd.C_below HR0_2.out HB.out); (case v2 => exact HC0_2.out); (case v3 => exact Kd.C_below HR0_3.out HB.out); (case v4 => exact HC0_3.out); rintro e w4 ⟨rfl, hb4⟩; have HI := Aside0.mk (EbI.below ⟨BKgb.out, HB.out⟩ hb4); clear hb4; have hcw0 : w4.cell? ⟨gb, 0, none⟩ = some (.int .i64 a0_0) := (blk_cell HI.out.1 0).trans rfl; have hcw1 : w4.cell? ⟨gb, 1, none⟩ = some (.int .i64 a0_1) := (blk_cell HI.out.1 1).trans rfl) | (go_at_call 29; (with_reducible refine (impl_isLineState.calls a1 false _ A2_.out).mono ?_); rintro e w5 ⟨rfl, ⟨nd2, rfl⟩⟩))
  refine bodyPost_ret (v := .tuple #[.slice none 0 0, .slice none 0 0, .int .i64 0, .bool false]) (by simp [results, Tryz.results155, go_sem]) rfl ?_
  exact ⟨_, _, rfl, Kd.R_nil _ _ _ _ _, Kd.R_nil _ _ _ _ _, (HI.out.drewN _).2⟩
 | true =>
 rw [if_pos rfl] at h
 obtain ⟨t3, A3, h⟩ := Option.bind_eq_some_iff.mp h
 have A3_ := Aside0.mk A3
 clear A3
 cases t3 with
 | false =>
  replace h : some (([] : List Int), ([] : List Int), (0 : Int), false) = some (r1, r2, r3, r4) := h
  simp only [Option.some.injEq, Prod.mk.injEq] at h
  obtain ⟨rfl, rfl, rfl, rfl⟩ := h
  go_enter Tryz.func155, Tryz.ntmps155
  go_wp2_with (first | ((with_reducible refine gate_dst (N := 3) rfl ?_); (try (refine gate_guard (by rfl) ?_; dsimp only)); refine box_event ?hg (N := 3) ?hd (cs := #[.int .i64 a0_0, .int .i64 a0_1, .slice A0_2 l0_2.length c0_2, .slice A0_3 l0_3.length c0_3]) (t := 25) ?hr ?_; (case hd => rfl); (case hg => rfl); (case hr => exact Qh0_); intro gb hggb w3 hbox hb; have n0_ := Aside0.mk (below_step Qa0_ hb); have n1_ := Aside0.mk (hbox); clear HB; have HB := n0_; have BKgb := n1_; clear n0_ n1_; clear hb hbox hggb; have hczgb0 : w3.cell? ⟨gb, 0, none⟩ = some (.int .i64 a0_0) := (blk_cell BKgb.out 0).trans rfl; have hczgb1 : w3.cell? ⟨gb, 1, none⟩ = some (.int .i64 a0_1) := (blk_cell BKgb.out 1).trans rfl; have hczgb2 : w3.cell? ⟨gb, 2, none⟩ = some (.slice A0_2 l0_2.length c0_2) := (blk_cell BKgb.out 2).trans rfl; have hczgb3 : w3.cell? ⟨gb, 3, none⟩ = some (.slice A0_3 l0_3.length c0_3) := (blk_cell BKgb.out 3).trans rfl) | (go_at_call 28; (with_reducible refine (impl_ValidBlockCode.calls k a0_0 a0_1 A0_2 c0_2 l0_2 A0_3 c0_3 l0_3 true _ ?v1 ?v2 ?v3 ?v4 A1_.out).mono ?_); (case v1 => exact Kd.C_below HR0_2.out HB.out); (case v2 => exact HC0_2.out); (case v3 => exact Kd.C_below HR0_3.out HB.out); (case v4 => exact HC0_3.out); rintro e w4 ⟨rfl, hb4⟩; have HI := Aside0.mk (EbI.below ⟨BKgb.out, HB.out⟩ hb4); clear hb4; have hcw0 : w4.cell? ⟨gb, 0, none⟩ = some (.int .i64 a0_0) := (blk_cell HI.out.1 0).trans rfl; have hcw1 : w4.cell? ⟨gb, 1, none⟩ = some (.int .i64 a0_1) := (blk_cell HI.out.1 1).trans rfl) | (go_at_call 29; (with_reducible refine (impl_isLineState.calls a1 true _ A2_.out).mono ?_); rintro e w5 ⟨rfl, ⟨nd2, rfl⟩⟩) | (go_at_call 41; (with_reducible refine (impl_IsBits.calls a2 false _ A3_.out).mono ?_); rintro e w6 ⟨rfl, hb6⟩; have HI2 := Aside0.mk (EbI.below (HI.out.drewN nd2) hb6); clear hb6; have hcx1 : w6.cell? ⟨gb, 1, none⟩ = some (.int .i64 a0_1) := (blk_cell HI2.out.1 1).trans rfl))
  refine bodyPost_ret (v := .tuple #[.slice none 0 0, .slice none 0 0, .int .i64 0, .bool false]) (by simp [results, Tryz.results155, go_sem]) rfl ?_
  exact ⟨_, _, rfl, Kd.R_nil _ _ _ _ _, Kd.R_nil _ _ _ _ _, HI2.out.2⟩
 | true =>
 rw [if_pos rfl] at h
 obtain ⟨jq, hjq⟩ : ∃ j_ : Int, (a2.size : Int) % a0_1 = j_ := ⟨_, rfl⟩
 rw [hjq] at h
 have hjqt : Int.tmod (a2.size : Int) a0_1 = jq := by rw [← hjq]; exact Int.tmod_eq_emod_of_nonneg (by omega)
 by_cases c4 : jq = 0
 rotate_left
 ·rw [if_neg c4] at h
  simp only [Option.some.injEq, Prod.mk.injEq] at h
  obtain ⟨rfl, rfl, rfl, rfl⟩ := h
  have c4b0 : (jq != 0) = true := bne_iff_ne.2 c4
  have c4b1 : (jq == 0) = false := beq_eq_false_iff_ne.2 c4
  clear c4
  go_enter Tryz.func155, Tryz.ntmps155
  go_wp2_with (first | ((with_reducible refine gate_dst (N := 3) rfl ?_); (try (refine gate_guard (by rfl) ?_; dsimp only)); refine box_event ?hg (N := 3) ?hd (cs := #[.int .i64 a0_0, .int .i64 a0_1, .slice A0_2 l0_2.length c0_2, .slice A0_3 l0_3.length c0_3]) (t := 25) ?hr ?_; (case hd => rfl); (case hg => rfl); (case hr => exact Qh0_); intro gb hggb w3 hbox hb; have n0_ := Aside0.mk (below_step Qa0_ hb); have n1_ := Aside0.mk (hbox); clear HB; have HB := n0_; have BKgb := n1_; clear n0_ n1_; clear hb hbox hggb; have hczgb0 : w3.cell? ⟨gb, 0, none⟩ = some (.int .i64 a0_0) := (blk_cell BKgb.out 0).trans rfl; have hczgb1 : w3.cell? ⟨gb, 1, none⟩ = some (.int .i64 a0_1) := (blk_cell BKgb.out 1).trans rfl; have hczgb2 : w3.cell? ⟨gb, 2, none⟩ = some (.slice A0_2 l0_2.length c0_2) := (blk_cell BKgb.out 2).trans rfl; have hczgb3 : w3.cell? ⟨gb, 3, none⟩ = some (.slice A0_3 l0_3.length c0_3) := (blk_cell BKgb.out 3).trans rfl) | (go_at_call 28; (with_reducible refine (impl_ValidBlockCode.calls k a0_0 a0_1 A0_2 c0_2 l0_2 A0_3 c0_3 l0_3 true _ ?v1 ?v2 ?v3 ?v4 A1_.out).mono ?_); (case v1 => exact Kd.C_below HR0_2.out HB.out); (case v2 => exact HC0_2.out); (case v3 => exact Kd.C_below HR0_3.out HB.out); (case v4 => exact HC0_3.out); rintro e w4 ⟨rfl, hb4⟩; have HI := Aside0.mk (EbI.below ⟨BKgb.out, HB.out⟩ hb4); clear hb4; have hcw0 : w4.cell? ⟨gb, 0, none⟩ = some (.int .i64 a0_0) := (blk_cell HI.out.1 0).trans rfl; have hcw1 : w4.cell? ⟨gb, 1, none⟩ = some (.int .i64 a0_1) := (blk_cell HI.out.1 1).trans rfl) | (go_at_call 29; (with_reducible refine (impl_isLineState.calls a1 true _ A2_.out).mono ?_); rintro e w5 ⟨rfl, ⟨nd2, rfl⟩⟩) | (go_at_call 41; (with_reducible refine (impl_IsBits.calls a2 true _ A3_.out).mono ?_); rintro e w6 ⟨rfl, hb6⟩; have HI2 := Aside0.mk (EbI.below (HI.out.drewN nd2) hb6); clear hb6; have hcx1 : w6.cell? ⟨gb, 1, none⟩ = some (.int .i64 a0_1) := (blk_cell HI2.out.1 1).trans rfl))
  refine bodyPost_ret (v := .tuple #[.slice none 0 0, .slice none 0 0, .int .i64 0, .bool false]) (by simp [results, Tryz.results155, go_sem]) rfl ?_
  exact ⟨_, _, rfl, Kd.R_nil _ _ _ _ _, Kd.R_nil _ _ _ _ _, HI2.out.2⟩
 rw [if_pos c4] at h
 have c4b0 : (jq != 0) = false := by rw [c4]; rfl
 have c4b1 : (jq == 0) = true := by rw [c4]; rfl
 clear c4
 have H' := Aside0.mk h
 clear h
 go_enter Tryz.func155, Tryz.ntmps155
 go_wp2_with (first | ((with_reducible refine gate_dst (N := 3) rfl ?_); (try (refine gate_guard (by rfl) ?_; dsimp only)); refine box_event ?hg (N := 3) ?hd (cs := #[.int .i64 a0_0, .int .i64 a0_1, .slice A0_2 l0_2.length c0_2, .slice A0_3 l0_3.length c0_3]) (t := 25) ?hr ?_; (case hd => rfl); (case hg => rfl); (case hr => exact Qh0_); intro gb hggb w3 hbox hb; have n0_ := Aside0.mk (below_step Qa0_ hb); have n1_ := Aside0.mk (hbox); clear HB; have HB := n0_; have BKgb := n1_; clear n0_ n1_; clear hb hbox hggb; have hczgb0 : w3.cell? ⟨gb, 0, none⟩ = some (.int .i64 a0_0) := (blk_cell BKgb.out 0).trans rfl; have hczgb1 : w3.cell? ⟨gb, 1, none⟩ = some (.int .i64 a0_1) := (blk_cell BKgb.out 1).trans rfl; have hczgb2 : w3.cell? ⟨gb, 2, none⟩ = some (.slice A0_2 l0_2.length c0_2) := (blk_cell BKgb.out 2).trans rfl; have hczgb3 : w3.cell? ⟨gb, 3, none⟩ = some (.slice A0_3 l0_3.length c0_3) := (blk_cell BKgb.out 3).trans rfl) | (go_at_call 28; (with_reducible refine (impl_ValidBlockCode.calls k a0_0 a0_1 A0_2 c0_2 l0_2 A0_3 c0_3 l0_3 true _ ?v1 ?v2 ?v3 ?v4 A1_.out).mono ?_); (case v1 => exact Kd.C_below HR0_2.out HB.out); (case v2 => exact HC0_2.out); (case v3 => exact Kd.C_below HR0_3.out HB.out); (case v4 => exact HC0_3.out); rintro e w4 ⟨rfl, hb4⟩; have HI := Aside0.mk (EbI.below ⟨BKgb.out, HB.out⟩ hb4); clear hb4; have hcw0 : w4.cell? ⟨gb, 0, none⟩ = some (.int .i64 a0_0) := (blk_cell HI.out.1 0).trans rfl; have hcw1 : w4.cell? ⟨gb, 1, none⟩ = some (.int .i64 a0_1) := (blk_cell HI.out.1 1).trans rfl) | (go_at_call 29; (with_reducible refine (impl_isLineState.calls a1 true _ A2_.out).mono ?_); rintro e w5 ⟨rfl, ⟨nd2, rfl⟩⟩) | (go_at_call 41; (with_reducible refine (impl_IsBits.calls a2 true _ A3_.out).mono ?_); rintro e w6 ⟨rfl, hb6⟩; have HI2 := Aside0.mk (EbI.below (HI.out.drewN nd2) hb6); clear hb6; have hcx1 : w6.cell? ⟨gb, 1, none⟩ = some (.int .i64 a0_1) := (blk_cell HI2.out.1 1).trans rfl) | ((with_reducible refine gate_dst (N := 38) rfl ?_); refine Kd.R_lit (Kd.int .i64) (w0 := w) w.heap.size 2 ?hg (N := 38) ?hd (xs := ([] : List Int)) (inner := []) (ok := fun _ => True) (okp := fun _ => True) ?hr ?hp (fun _ hk => hk) trivial ?hB ?hS (by simp) ?_; (case hd => rfl); (case hg => rfl); (case hr => exact Qh0_); (case hp => exact (Reps.none _ _)); (case hB => exact HI2.out.2); (case hS => exact HI2.out.2.size); intro v38 w38 ho hb hg_ hnew_; have HI3 := Aside0.mk (show EbI w w38 gb _ from ⟨(hg_.block gb (blk_lt HI2.out.1) (by simp)).trans HI2.out.1, hb⟩); have HD := Aside0.mk ho; clear ho hb hg_ hnew_) | ((with_reducible refine gate_dst (N := 39) rfl ?_); refine Kd.R_lit (Kd.int .i64) (w0 := w) w.heap.size 2 ?hg (N := 39) ?hd (xs := ([] : List Int)) (inner := []) (ok := fun _ => True) (okp := fun _ => True) ?hr ?hp (fun _ hk => hk) trivial ?hB ?hS (by simp) ?_; (case hd => rfl); (case hg => rfl); (case hr => exact Qh0_); (case hp => exact (Reps.none _ _)); (case hB => exact HI3.out.2); (case hS => exact HI3.out.2.size); intro v39 w39 ho hb hg_ hnew_; have HJ := Aside0.mk (show DbI w w39 gb _ v38 v39 [] [] from ⟨⟨(hg_.block gb (blk_lt HI3.out.1) (by simp)).trans HI3.out.1, hb⟩, db_row HD.out (fun k hk => hg_.block k (db_lt HD.out k hk) (by simp)), ho, fun k h1 h2 => by obtain ⟨b, h3, h4⟩ := hnew_; rw [h2] at h3; cases h3; have := db_lt HD.out k h1; omega⟩); clear HD HI3 ho hb hg_ hnew_))
 go_loopg [2, 10, 11, 12] k (fun kq v2 v10 v11 v12 w' => ∃ (s : ByteArray) (st : Int) (da wr : List Int), v2 = .string s ∧ v12 = .int .i64 st ∧ Aside0 (impl_DecodeBlocks.l0 kq a0_1 l0_2 l0_3 s st da wr = some (r1, r2, r3, r4)) ∧ Aside0 (kq ≤ k) ∧ Aside0 (DbI w w' gb #[.int .i64 a0_0, .int .i64 a0_1, .slice A0_2 l0_2.length c0_2, .slice A0_3 l0_3.length c0_3] v10 v11 da wr))
 case atStart => exact ⟨a2, a1, [], [], Qc0_, Qc0_, H', ⟨Nat.le_refl _⟩, HJ⟩
 case round =>
  clear H' HJ hczgb0 hczgb1 hczgb2 hczgb3 hcw0 hcw1 hcx1 c0b2 c0b3 hjq hjqt c4b0 c4b1 HB HI HI2 BKgb A1_ A2_ A3_
  obtain ⟨s, st, da, wr_, rfl, rfl, HA, HK1, HI⟩ := hrel
  cases gk with
  | zero => exact absurd HA.out (by simp [impl_DecodeBlocks.l0])
  | succ k1 =>
   have H := HA.out
   clear HA
   simp only [impl_DecodeBlocks.l0] at H
   by_cases d1 : (s.size : Int) > 0
   rotate_left
   ·rw [if_neg d1] at H
    simp only [Option.some.injEq, Prod.mk.injEq] at H
    obtain ⟨rfl, rfl, rfl, rfl⟩ := H
    have d1b0 : decide (0 < (s.size : Int)) = false := decide_eq_false d1
    have d1b1 : decide (0 < s.size) = false := decide_eq_false (by omega)
    clear d1
    go_wp2
    refine bodyPost_ret (v := .tuple #[u10, u11, .int .i64 st, .bool true]) (by simp [results, Tryz.results155, go_sem]) rfl ?_
    exact ⟨_, _, rfl, Kd.R_of_own (Kd.own_of_R HI.out.2.1) (fun k e => fun e2 => HI.out.2.2.2 k e e2.symm), Kd.R_of_own (Kd.own_of_R HI.out.2.2.1) (fun k e => fun e2 => HI.out.2.2.2 k e2.symm e), HI.out.1.2⟩
   rw [if_pos d1] at H
   have d1b0 : decide (0 < (s.size : Int)) = true := decide_eq_true d1
   have d1b1 : decide (0 < s.size) = true := decide_eq_true (by omega)
   clear d1
   by_cases d2 : a0_1 ≤ (s.size : Int)
   rotate_left
   ·rw [if_neg d2] at H
    exact absurd H (by simp)
   rw [if_pos d2] at H
   have d2b0 : decide (a0_1 ≤ (s.size : Int)) = true := decide_eq_true d2
   have d2b1 := eq_true d2
   clear d2
   by_cases d3 : da.length < 1000 ∧ wr_.length < 1000
   rotate_left
   ·rw [if_neg d3] at H
    exact absurd H (by simp)
   rw [if_pos d3] at H
   have HL := Aside0.mk d3
   clear d3
   obtain ⟨x, hx⟩ : ∃ x : ByteArray, x = s.extract 0 (a0_1 : Int).toNat := ⟨_, rfl⟩
   rw [← hx] at H
   have hcv0 : wr.cell? ⟨gb, 0, none⟩ = some (.int .i64 a0_0) := (blk_cell HI.out.1.1 0).trans rfl
   have hcv1 : wr.cell? ⟨gb, 1, none⟩ = some (.int .i64 a0_1) := (blk_cell HI.out.1.1 1).trans rfl
   have hcv2 : wr.cell? ⟨gb, 2, none⟩ = some (.slice A0_2 l0_2.length c0_2) := (blk_cell HI.out.1.1 2).trans rfl
   have hcv3 : wr.cell? ⟨gb, 3, none⟩ = some (.slice A0_3 l0_3.length c0_3) := (blk_cell HI.out.1.1 3).trans rfl
   have hvd := HI.out.2.1
   obtain ⟨Ad, cd, ed⟩ := Kd.R_slice HI.out.2.1
   subst ed
   have hl10 := (Kd.R_reads' HI.out.2.1).1
   clear hvd
   have HX := Aside0.mk hx
   clear hx
   by_cases hst : st < 0
   ·simp only [if_pos hst] at H
    obtain ⟨n, A1, H⟩ := Option.bind_eq_some_iff.mp H
    have A4_ := Aside0.mk A1
    clear A1
    by_cases d4 : n < 0
    ·rw [if_pos d4] at H
     have d4b0 : decide (n < 0) = true := decide_eq_true d4
     clear d4
     obtain ⟨n2, A1, H⟩ := Option.bind_eq_some_iff.mp H
     have A5_ := Aside0.mk A1
     clear A1
     obtain ⟨t, A1, H⟩ := Option.bind_eq_some_iff.mp H
     have A6_ := Aside0.mk A1
     clear A1
     have H' := Aside0.mk H
     clear H
     go_wp2_with (first | (go_at_call 30; refine (bw_minus a0_0 a0_1 _ _ st _ hst rfl rfl).mono ?_; rintro e w7 ⟨rfl, hb7⟩; have HI2 := Aside0.mk (HI.out.below hb7); clear hb7; (try rw [← HX.out])) | (go_at_call 69; (with_reducible refine (slices_Index_string_string.calls k1 A0_2 c0_2 l0_2 x n _ ?s1 ?s2 A4_.out).mono ?_); (case s1 => exact Kd.C_below HR0_2.out HI2.out.1.2); (case s2 => exact HC0_2.out); rintro e w8 ⟨rfl, ⟨nd, rfl⟩⟩; have HI3 := Aside0.mk (HI2.out.drewN nd); clear HI2) | (go_at_call 69; (with_reducible refine (slices_Index_string_string.calls k1 A0_3 c0_3 l0_3 x n2 _ ?s1 ?s2 A5_.out).mono ?_); (case s1 => exact Kd.C_below HR0_3.out HI4.out.1.2); (case s2 => exact HC0_3.out); rintro e w9 ⟨rfl, ⟨nd, rfl⟩⟩; have HI5 := Aside0.mk (HI4.out.drewN nd); clear HI4) | ((with_reducible refine gate_builtin (b := .append) (xs := #[.tmp 63, .tmp 66]) rfl ?_); at_builtin; refine Kd.R_append (Kd.int .i64) (w0 := w) w.heap.size rfl (.tmp 63) (.tmp 66) 22 2 (.int .i64 0) 8 rfl Tryz.underlying22 info2 rfl (by decide) (by omega) u11 wr_ (da.length : Int) [.int .i64 (da.length : Int)] (fun _ => True) (fun _ => False) rfl rfl ?aP (fun _ hk => hk.elim) (fun _ _ => trivial) ?aO ?aB ?aS ?aL ?_; (case aP => exact rfl); (case aB => exact HI3.out.1.2); (case aO => exact HI3.out.2.2.1); (case aS => exact HI3.out.1.2.size); (case aL => have := HL.out; omega); intro v67 w67 ho hb hg_ hat_; have HI4 := Aside0.mk (HI3.out.wrong ho hb hg_ hat_); clear ho hb hg_ hat_ HI3) | ((with_reducible refine gate_builtin (b := .append) (xs := #[.tmp 71, .tmp 73]) rfl ?_); at_builtin; refine Kd.R_append (Kd.int .i64) (w0 := w) w.heap.size rfl (.tmp 71) (.tmp 73) 22 2 (.int .i64 0) 8 rfl Tryz.underlying22 info2 rfl (by decide) (by omega) (.slice Ad da.length cd) da n2 [.int .i64 n2] (fun _ => True) (fun _ => False) rfl rfl ?aP (fun _ hk => hk.elim) (fun _ _ => trivial) ?aO ?aB ?aS ?aL ?_; (case aP => exact rfl); (case aB => exact HI5.out.1.2); (case aO => exact HI5.out.2.1); (case aS => exact HI5.out.1.2.size); (case aL => have := HL.out; omega); intro v74 w74 ho hb hg_ hat_; have HI6 := Aside0.mk (HI5.out.data ho hb hg_ hat_); clear ho hb hg_ hat_ HI5) | (go_at_call 31; (with_reducible refine (impl_stateBehind.calls st x t _ A6_.out).mono ?_); rintro e w10 ⟨rfl, ⟨nd, rfl⟩⟩))
     go_roundg k1
     case measure => have := HK1.out; omega
     case rel => exact ⟨_, t, (da ++ [n2]), (wr_ ++ [(da.length : Int)]), Qc0_, Qc0_, H', ⟨Qp0_⟩, ⟨HI6.out.drewN _⟩⟩
    ·rw [if_neg d4] at H
     have d4b0 : decide (n < 0) = false := decide_eq_false d4
     clear d4
     obtain ⟨t, A1, H⟩ := Option.bind_eq_some_iff.mp H
     have A6_ := Aside0.mk A1
     clear A1
     have H' := Aside0.mk H
     clear H
     go_wp2_with (first | (go_at_call 30; refine (bw_minus a0_0 a0_1 _ _ st _ hst rfl rfl).mono ?_; rintro e w7 ⟨rfl, hb7⟩; have HI2 := Aside0.mk (HI.out.below hb7); clear hb7; (try rw [← HX.out])) | (go_at_call 69; (with_reducible refine (slices_Index_string_string.calls k1 A0_2 c0_2 l0_2 x n _ ?s1 ?s2 A4_.out).mono ?_); (case s1 => exact Kd.C_below HR0_2.out HI2.out.1.2); (case s2 => exact HC0_2.out); rintro e w8 ⟨rfl, ⟨nd, rfl⟩⟩; have HI3 := Aside0.mk (HI2.out.drewN nd); clear HI2) | ((with_reducible refine gate_builtin (b := .append) (xs := #[.tmp 71, .tmp 73]) rfl ?_); at_builtin; refine Kd.R_append (Kd.int .i64) (w0 := w) w.heap.size rfl (.tmp 71) (.tmp 73) 22 2 (.int .i64 0) 8 rfl Tryz.underlying22 info2 rfl (by decide) (by omega) (.slice Ad da.length cd) da n [.int .i64 n] (fun _ => True) (fun _ => False) rfl rfl ?aP (fun _ hk => hk.elim) (fun _ _ => trivial) ?aO ?aB ?aS ?aL ?_; (case aP => exact rfl); (case aB => exact HI3.out.1.2); (case aO => exact HI3.out.2.1); (case aS => exact HI3.out.1.2.size); (case aL => have := HL.out; omega); intro v74 w74 ho hb hg_ hat_; have HI6 := Aside0.mk (HI3.out.data ho hb hg_ hat_); clear ho hb hg_ hat_ HI3) | (go_at_call 31; (with_reducible refine (impl_stateBehind.calls st x t _ A6_.out).mono ?_); rintro e w10 ⟨rfl, ⟨nd, rfl⟩⟩))
     go_roundg k1
     case measure => have := HK1.out; omega
     case rel => exact ⟨_, t, (da ++ [n]), wr_, Qc0_, Qc0_, H', ⟨Qp0_⟩, ⟨HI6.out.drewN _⟩⟩
   ·simp only [if_neg hst] at H
    obtain ⟨n, A1, H⟩ := Option.bind_eq_some_iff.mp H
    have A4_ := Aside0.mk A1
    clear A1
    by_cases d4 : n < 0
    ·rw [if_pos d4] at H
     have d4b0 : decide (n < 0) = true := decide_eq_true d4
     clear d4
     obtain ⟨n2, A1, H⟩ := Option.bind_eq_some_iff.mp H
     have A5_ := Aside0.mk A1
     clear A1
     obtain ⟨t, A1, H⟩ := Option.bind_eq_some_iff.mp H
     have A6_ := Aside0.mk A1
     clear A1
     have H' := Aside0.mk H
     clear H
     go_wp2_with (first | (go_at_call 30; refine (bw_plus a0_0 a0_1 _ _ st _ hst rfl rfl).mono ?_; rintro e w7 ⟨rfl, hb7⟩; have HI2 := Aside0.mk (HI.out.below hb7); clear hb7; (try rw [← HX.out])) | (go_at_call 69; (with_reducible refine (slices_Index_string_string.calls k1 A0_3 c0_3 l0_3 x n _ ?s1 ?s2 A4_.out).mono ?_); (case s1 => exact Kd.C_below HR0_3.out HI2.out.1.2); (case s2 => exact HC0_3.out); rintro e w8 ⟨rfl, ⟨nd, rfl⟩⟩; have HI3 := Aside0.mk (HI2.out.drewN nd); clear HI2) | (go_at_call 69; (with_reducible refine (slices_Index_string_string.calls k1 A0_2 c0_2 l0_2 x n2 _ ?s1 ?s2 A5_.out).mono ?_); (case s1 => exact Kd.C_below HR0_2.out HI4.out.1.2); (case s2 => exact HC0_2.out); rintro e w9 ⟨rfl, ⟨nd, rfl⟩⟩; have HI5 := Aside0.mk (HI4.out.drewN nd); clear HI4) | ((with_reducible refine gate_builtin (b := .append) (xs := #[.tmp 63, .tmp 66]) rfl ?_); at_builtin; refine Kd.R_append (Kd.int .i64) (w0 := w) w.heap.size rfl (.tmp 63) (.tmp 66) 22 2 (.int .i64 0) 8 rfl Tryz.underlying22 info2 rfl (by decide) (by omega) u11 wr_ (da.length : Int) [.int .i64 (da.length : Int)] (fun _ => True) (fun _ => False) rfl rfl ?aP (fun _ hk => hk.elim) (fun _ _ => trivial) ?aO ?aB ?aS ?aL ?_; (case aP => exact rfl); (case aB => exact HI3.out.1.2); (case aO => exact HI3.out.2.2.1); (case aS => exact HI3.out.1.2.size); (case aL => have := HL.out; omega); intro v67 w67 ho hb hg_ hat_; have HI4 := Aside0.mk (HI3.out.wrong ho hb hg_ hat_); clear ho hb hg_ hat_ HI3) | ((with_reducible refine gate_builtin (b := .append) (xs := #[.tmp 71, .tmp 73]) rfl ?_); at_builtin; refine Kd.R_append (Kd.int .i64) (w0 := w) w.heap.size rfl (.tmp 71) (.tmp 73) 22 2 (.int .i64 0) 8 rfl Tryz.underlying22 info2 rfl (by decide) (by omega) (.slice Ad da.length cd) da n2 [.int .i64 n2] (fun _ => True) (fun _ => False) rfl rfl ?aP (fun _ hk => hk.elim) (fun _ _ => trivial) ?aO ?aB ?aS ?aL ?_; (case aP => exact rfl); (case aB => exact HI5.out.1.2); (case aO => exact HI5.out.2.1); (case aS => exact HI5.out.1.2.size); (case aL => have := HL.out; omega); intro v74 w74 ho hb hg_ hat_; have HI6 := Aside0.mk (HI5.out.data ho hb hg_ hat_); clear ho hb hg_ hat_ HI5) | (go_at_call 31; (with_reducible refine (impl_stateBehind.calls st x t _ A6_.out).mono ?_); rintro e w10 ⟨rfl, ⟨nd, rfl⟩⟩))
     go_roundg k1
     case measure => have := HK1.out; omega
     case rel => exact ⟨_, t, (da ++ [n2]), (wr_ ++ [(da.length : Int)]), Qc0_, Qc0_, H', ⟨Qp0_⟩, ⟨HI6.out.drewN _⟩⟩
    ·rw [if_neg d4] at H
     have d4b0 : decide (n < 0) = false := decide_eq_false d4
     clear d4
     obtain ⟨t, A1, H⟩ := Option.bind_eq_some_iff.mp H
     have A6_ := Aside0.mk A1
     clear A1
     have H' := Aside0.mk H
     clear H
     go_wp2_with (first | (go_at_call 30; refine (bw_plus a0_0 a0_1 _ _ st _ hst rfl rfl).mono ?_; rintro e w7 ⟨rfl, hb7⟩; have HI2 := Aside0.mk (HI.out.below hb7); clear hb7; (try rw [← HX.out])) | (go_at_call 69; (with_reducible refine (slices_Index_string_string.calls k1 A0_3 c0_3 l0_3 x n _ ?s1 ?s2 A4_.out).mono ?_); (case s1 => exact Kd.C_below HR0_3.out HI2.out.1.2); (case s2 => exact HC0_3.out); rintro e w8 ⟨rfl, ⟨nd, rfl⟩⟩; have HI3 := Aside0.mk (HI2.out.drewN nd); clear HI2) | ((with_reducible refine gate_builtin (b := .append) (xs := #[.tmp 71, .tmp 73]) rfl ?_); at_builtin; refine Kd.R_append (Kd.int .i64) (w0 := w) w.heap.size rfl (.tmp 71) (.tmp 73) 22 2 (.int .i64 0) 8 rfl Tryz.underlying22 info2 rfl (by decide) (by omega) (.slice Ad da.length cd) da n [.int .i64 n] (fun _ => True) (fun _ => False) rfl rfl ?aP (fun _ hk => hk.elim) (fun _ _ => trivial) ?aO ?aB ?aS ?aL ?_; (case aP => exact rfl); (case aB => exact HI3.out.1.2); (case aO => exact HI3.out.2.1); (case aS => exact HI3.out.1.2.size); (case aL => have := HL.out; omega); intro v74 w74 ho hb hg_ hat_; have HI6 := Aside0.mk (HI3.out.data ho hb hg_ hat_); clear ho hb hg_ hat_ HI3) | (go_at_call 31; (with_reducible refine (impl_stateBehind.calls st x t _ A6_.out).mono ?_); rintro e w10 ⟨rfl, ⟨nd, rfl⟩⟩))
     go_roundg k1
     case measure => have := HK1.out; omega
     case rel => exact ⟨_, t, (da ++ [n]), wr_, Qc0_, Qc0_, H', ⟨Qp0_⟩, ⟨HI6.out.drewN _⟩⟩
def impl_decoded.f (k : Nat) (a0_0 : ByteArray) (a0_1 : Int) (a0_2 : ByteArray) (l0_3 : List Int) (l0_4 : List Int) : Option (ByteArray × Bool) := if 0 < (l0_3.length : Int) then (if 1 < (l0_3.length : Int) then ((impl_MakeBlockCode.f k (rd l0_3 0) (rd l0_3 1)).bind fun bt375 => (if 2 < (l0_3.length : Int) then ((impl_DecodeBlocks.f k bt375.1 bt375.2.1 bt375.2.2.1 bt375.2.2.2.1 (rd l0_3 2) a0_2).bind fun bt386 => ((impl_ListText.f k bt386.1).bind fun bt394 => ((impl_ListText.f k bt386.2.1).bind fun bt396 => (if bt394.1.size + 1 ≤ 9223372036854775807 then (if (bt394.1 ++ (⟨#[32]⟩ : ByteArray)).size + bt396.1.size ≤ 9223372036854775807 then (if bt375.2.2.2.2 = true then (if bt386.2.2.2 = true then (if bt394.2 = true then (some ((bt394.1 ++ (⟨#[32]⟩ : ByteArray)) ++ bt396.1, bt396.2)) else (some ((bt394.1 ++ (⟨#[32]⟩ : ByteArray)) ++ bt396.1, false))) else (some ((bt394.1 ++ (⟨#[32]⟩ : ByteArray)) ++ bt396.1, false))) else (some ((bt394.1 ++ (⟨#[32]⟩ : ByteArray)) ++ bt396.1, false))) else (none)) else (none))))) else (none))) else (none)) else (none)
set_option maxHeartbeats 8000000 in
set_option maxRecDepth 100000 in
theorem impl_decoded.calls (k : Nat) (a0_0 : ByteArray) (a0_1 : Int) (a0_2 : ByteArray) (A0_3 : Option Addr) (c0_3 : Nat) (l0_3 : List Int) (A0_4 : Option Addr) (c0_4 : Nat) (l0_4 : List Int) (r1 : ByteArray) (r2 : Bool) (w : World) (hr0_3 : Kd.C (Kd.int .i64) w A0_3 l0_3.length l0_3) (hc0_3 : l0_3.length ≤ c0_3) (hr0_4 : Kd.C (Kd.int .i64) w A0_4 l0_4.length l0_4) (hc0_4 : l0_4.length ≤ c0_4) (hT : LibW w) (h : impl_decoded.f k a0_0 a0_1 a0_2 l0_3 l0_4 = some (r1, r2)) :
 Calls Tryz.prog 121 #[.agg #[.string a0_0, .int .i64 a0_1, .string a0_2, .slice A0_3 l0_3.length c0_3, .slice A0_4 l0_4.length c0_4]] w fun e w' => e = .returned (.tuple #[.string r1, .bool r2]) ∧ Below w.heap.size w w' := by
 have hu67 := Tryz.underlying105
 have hu98 := Tryz.underlying25
 have HT := Aside0.mk hT
 have HB := Aside0.mk (Below.refl w.heap.size w)
 unfold impl_decoded.f at h
 by_cases e1 : 0 < (l0_3.length : Int)
 rotate_left
 ·rw [if_neg e1] at h; cases h
 rw [if_pos e1] at h
 by_cases e2 : 1 < (l0_3.length : Int)
 rotate_left
 ·rw [if_neg e2] at h; cases h
 rw [if_pos e2] at h
 obtain ⟨⟨m0, m1, l2, l3, ok1⟩, B1, h⟩ := Option.bind_eq_some_iff.mp h
 by_cases e3 : 2 < (l0_3.length : Int)
 rotate_left
 ·rw [if_neg e3] at h; cases h
 rw [if_pos e3] at h
 obtain ⟨⟨d0, d1, d2, ok2⟩, B2, h⟩ := Option.bind_eq_some_iff.mp h
 obtain ⟨⟨t1, ok3⟩, B3, h⟩ := Option.bind_eq_some_iff.mp h
 obtain ⟨⟨t2, ok4⟩, B4, h⟩ := Option.bind_eq_some_iff.mp h
 by_cases e4 : t1.size + 1 ≤ 9223372036854775807
 rotate_left
 ·rw [if_neg e4] at h; cases h
 rw [if_pos e4] at h
 by_cases e5 : (t1 ++ (⟨#[32]⟩ : ByteArray)).size + t2.size ≤ 9223372036854775807
 rotate_left
 ·rw [if_neg e5] at h; cases h
 rw [if_pos e5] at h
 have hr : r1 = (t1 ++ (⟨#[32]⟩ : ByteArray)) ++ t2 ∧ r2 = (ok1 && (ok2 && (ok3 && ok4))) := by
  cases ok1 <;> cases ok2 <;> cases ok3 <;> cases ok4 <;> simp at h <;> exact ⟨by first | exact h.1.symm | exact h.symm, by first | exact h.2.symm | rfl | (simp [h]; done)⟩
 obtain ⟨rfl, rfl⟩ := hr
 clear h
 have hs1 : (t1 ++ (⟨#[32]⟩ : ByteArray)).size = t1.size + 1 := by rw [ByteArray.size_append]; rfl
 have f1 : (9223372036854775807 < t1.size + 1) = False := eq_false (by omega)
 have f2 : (9223372036854775807 < t1.size + 1 + t2.size) = False := eq_false (by omega)
 obtain ⟨ad, ed, hx0⟩ := Kd.at_int hr0_3 0 (by decide) e1
 cases ed
 obtain ⟨ad1, ed1, hx1⟩ := Kd.at_int hr0_3 1 (by decide) e2
 rw [← Option.some.inj ed1] at hx1
 obtain ⟨ad2, ed2, hx2⟩ := Kd.at_int hr0_3 2 (by decide) e3
 rw [← Option.some.inj ed2] at hx2
 have HX0 := Aside0.mk (show w.cell? (ad.add 0) = some (.int .i64 (rd l0_3 0)) from hx0)
 have HX1 := Aside0.mk (show w.cell? (ad.add 1) = some (.int .i64 (rd l0_3 1)) from hx1)
 have HX2 := Aside0.mk (show w.cell? (ad.add 2) = some (.int .i64 (rd l0_3 2)) from hx2)
 have HXZ := Aside0.mk (show w.cell? ad = some (.int .i64 (rd l0_3 0)) by simpa [Addr.add] using hx0)
 have p0 := eq_true e1
 have p1 := eq_true e2
 have p2 := eq_true e3
 have q0 : (0 < l0_3.length) = True := eq_true (by omega)
 have q1 : (1 < l0_3.length) = True := eq_true (by omega)
 have q2 : (2 < l0_3.length) = True := eq_true (by omega)
 have B1_ := Aside0.mk B1
 have B2_ := Aside0.mk (show impl_DecodeBlocks.f k m0 m1 l2 l3 (rd l0_3 2) a0_2 = some (d0, d1, d2, ok2) from B2)
 have B3_ := Aside0.mk (show impl_ListText.f k d0 = some (t1, ok3) from B3)
 have B4_ := Aside0.mk (show impl_ListText.f k d1 = some (t2, ok4) from B4)
 clear ed1 ed2 hx0 hx1 hx2 e1 e2 e3 e4 e5 B1 B2 B3 B4 hT hr0_3 hc0_3 hr0_4 hc0_4
 go_enter Tryz.func121, Tryz.ntmps121
 go_wp2_with (first | ((with_reducible refine gate_dst (N := 1) rfl ?_); (try (refine gate_guard (by rfl) ?_; dsimp only)); refine box_event ?hg (N := 1) ?hd (cs := #[.string a0_0, .int .i64 a0_1, .string a0_2, .slice (some ad) l0_3.length c0_3, .slice A0_4 l0_4.length c0_4]) (t := 105) ?hr ?_; (case hd => rfl); (case hg => rfl); (case hr => exact Qh0_); intro ga hgga wg hbox hb; have n0_ := Aside0.mk (below_step Qa0_ hb); have HGA := Aside0.mk (show w.heap.size ≤ ga by omega); have n1_ := Aside0.mk (hbox); clear HB; have HB := n0_; have BKga := n1_; clear n0_ n1_; clear hb hbox hgga; have hczga0 : wg.cell? ⟨ga, 0, none⟩ = some (.string a0_0) := (blk_cell BKga.out 0).trans rfl; have hczga1 : wg.cell? ⟨ga, 1, none⟩ = some (.int .i64 a0_1) := (blk_cell BKga.out 1).trans rfl; have hczga2 : wg.cell? ⟨ga, 2, none⟩ = some (.string a0_2) := (blk_cell BKga.out 2).trans rfl; have hczga3 : wg.cell? ⟨ga, 3, none⟩ = some (.slice (some ad) l0_3.length c0_3) := (blk_cell BKga.out 3).trans rfl; have hczga4 : wg.cell? ⟨ga, 4, none⟩ = some (.slice A0_4 l0_4.length c0_4) := (blk_cell BKga.out 4).trans rfl))
 have hcA3 : wg.cell? ⟨ga, 3, none⟩ = some (.slice (some ad) l0_3.length c0_3) := (blk_cell BKga.out 3).trans rfl
 have hnz := pw_cell_below HB.out HXZ.out
 have hn1 := pw_cell_below HB.out HX1.out
 have hn1s := hn1
 simp [Addr.add] at hn1s
 have HSof := Aside0.mk (fun (w' : World) (hb : Below wg.heap.size wg w') => And.intro (pw_cell_below hb hcA3) (And.intro (pw_cell_below hb hnz) (pw_cell_below hb hn1s)))
 go_cut [4, 5] (fun v4 v5 wx => ∃ (g : Nat) (v2 v3 : Value), v4 = .pointer (some ⟨g, 0, none⟩) ∧ v5 = .bool ok1 ∧ Aside0 (dcI w wx ga #[.string a0_0, .int .i64 a0_1, .string a0_2, .slice (some ad) l0_3.length c0_3, .slice A0_4 l0_4.length c0_4] g m0 m1 v2 v3 l2 l3))
 case first =>
  go_region_held3 (fun w' => w'.cell? ⟨ga, 3, none⟩ = some (.slice (some ad) l0_3.length c0_3) ∧ w'.cell? ad = some (.int .i64 (rd l0_3 0)) ∧ w'.cell? ⟨ad.block, ad.off + 1, none⟩ = some (.int .i64 (rd l0_3 1))) (first | exact HSof.out _ Qo1_) (first | (go_at_call 4; (with_reducible refine (impl_MakeBlockCode.calls k (rd l0_3 0) (rd l0_3 1) m0 m1 l2 l3 ok1 _ B1_.out).mono ?_); rintro e w2 ⟨v2, v3, rfl, ho2, ho3, hb⟩; obtain ⟨A2, c2, e2_⟩ := Kd.R_slice ho2; subst e2_; obtain ⟨A3, c3, e3_⟩ := Kd.R_slice ho3; subst e3_; have HW2 := Aside0.mk (show Below w.heap.size w w2 from below_step (below_step HB.out Qn0_) hb); have HS2 := Aside0.mk (show wg.heap.size ≤ w2.heap.size from Nat.le_trans (show Below wg.heap.size wg _ from Qn0_).size hb.size); have HR2 := Aside0.mk (Kd.R_lower (Kd.R_mono ho2 (fun _ _ => trivial)) (below_step HB.out Qn0_).size); have HR3 := Aside0.mk (Kd.R_lower (Kd.R_mono ho3 (fun _ _ => trivial)) (below_step HB.out Qn0_).size); have HA2 := Aside0.mk (show w2.heap[ga]? = some (.cells #[.string a0_0, .int .i64 a0_1, .string a0_2, .slice (some ad) l0_3.length c0_3, .slice A0_4 l0_4.length c0_4] 105 (0, 0)) from (hb.block ga (Nat.lt_of_lt_of_le (dc_lt BKga.out) (show Below wg.heap.size wg _ from Qn0_).size)).trans (((show Below wg.heap.size wg _ from Qn0_).block ga (dc_lt BKga.out)).trans BKga.out)); (first | (have hbk_ : w2.heap[wg.heap.size]? = some (.cells #[.int .i64 0, .int .i64 0, .slice none 0 0, .slice none 0 0] 25 (0, 0)) := (hb.block wg.heap.size (dc_lt (heap_alloc_new _ _))).trans (heap_alloc_new _ _); have HBG := Aside0.mk hbk_; have hz0 := (blk_cell hbk_ 0).trans rfl; have hz1 := (blk_cell hbk_ 1).trans rfl; have hz2 := (blk_cell hbk_ 2).trans rfl; have hz3 := (blk_cell hbk_ 3).trans rfl; have hf0 := blk_frozen hbk_ 0; have hf1 := blk_frozen hbk_ 1; have hf2 := blk_frozen hbk_ 2; have hf3 := blk_frozen hbk_ 3; clear hbk_) | skip); have HWG := Aside0.mk (below_step (show Below wg.heap.size wg _ from Qn0_) hb); clear ho2 ho3 hb))
  all_goals (go_wp2; go_meet; exact ⟨_, _, _, rfl, rfl, ⟨by first | exact (dcI.made HW2.out HA2.out HBG.out HB.out.size HR2.out HR3.out rfl).below Qn0_ | exact (show dcI w (w2.alloc _) ga _ _ _ _ _ _ _ _ from ⟨below_step HW2.out (below_alloc (Below.refl w2.heap.size w2) _), ((below_alloc (Below.refl w2.heap.size w2) _).block ga (dc_lt HA2.out)).trans HA2.out, heap_alloc_new _ _, dc_row HR2.out (fun k_ c_ h_ => (below_alloc (Below.refl w2.heap.size w2) _).block k_ (dc_lt h_)), dc_row HR3.out (fun k_ c_ h_ => (below_alloc (Below.refl w2.heap.size w2) _).block k_ (dc_lt h_))⟩)⟩⟩)
 case rest =>
  obtain ⟨g, v2, v3, rfl, rfl, HD⟩ := hcut
  obtain ⟨A2, c2, e2, hl2, hC2⟩ := Kd.R_reads HD.out.2.2.2.1
  subst e2
  obtain ⟨A3, c3, e3, hl3, hC3⟩ := Kd.R_reads HD.out.2.2.2.2
  subst e3
  have HC2 := Aside0.mk hC2
  have HC3 := Aside0.mk hC3
  have HL2 := Aside0.mk hl2
  have HL3 := Aside0.mk hl3
  clear hC2 hC3 hl2 hl3
  have hd0 : wc.cell? ⟨g, 0, none⟩ = some (.int .i64 m0) := (blk_cell HD.out.2.2.1 0).trans rfl
  have hd1 : wc.cell? ⟨g, 1, none⟩ = some (.int .i64 m1) := (blk_cell HD.out.2.2.1 1).trans rfl
  have hd2 : wc.cell? ⟨g, 2, none⟩ = some (.slice A2 l2.length c2) := (blk_cell HD.out.2.2.1 2).trans rfl
  have hd3 : wc.cell? ⟨g, 3, none⟩ = some (.slice A3 l3.length c3) := (blk_cell HD.out.2.2.1 3).trans rfl
  have he2 : wc.cell? ⟨ga, 2, none⟩ = some (.string a0_2) := (blk_cell HD.out.2.1 2).trans rfl
  have he3 : wc.cell? ⟨ga, 3, none⟩ = some (.slice (some ad) l0_3.length c0_3) := (blk_cell HD.out.2.1 3).trans rfl
  have hn2 := pw_cell_below HD.out.1 HX2.out
  have hn2s := hn2
  simp [Addr.add] at hn2s
  have HSf2 := Aside0.mk (fun (w' : World) (hb : Below wc.heap.size wc w') => And.intro (pw_cell_below hb hd0) (And.intro (pw_cell_below hb hd1) (And.intro (pw_cell_below hb hd2) (And.intro (pw_cell_below hb hd3) (And.intro (pw_cell_below hb he3) (And.intro (pw_cell_below hb he2) (pw_cell_below hb hn2s)))))))
  go_wp2
  go_cut [6, 7, 8, 9] (fun v6 v7 v8 v9 wx => ∃ (u0 u1 : Value), v6 = u0 ∧ v7 = u1 ∧ v8 = .int .i64 d2 ∧ v9 = .bool ok2 ∧ Aside0 (Below w.heap.size w wx ∧ Kd.R (Kd.int .i64) 2 wx w.heap.size (fun _ => True) u0 d0 ∧ Kd.R (Kd.int .i64) 2 wx w.heap.size (fun _ => True) u1 d1))
  case first =>
   go_region_held3 (fun w' => w'.cell? ⟨g, 0, none⟩ = some (.int .i64 m0) ∧ w'.cell? ⟨g, 1, none⟩ = some (.int .i64 m1) ∧ w'.cell? ⟨g, 2, none⟩ = some (.slice A2 l2.length c2) ∧ w'.cell? ⟨g, 3, none⟩ = some (.slice A3 l3.length c3) ∧ w'.cell? ⟨ga, 3, none⟩ = some (.slice (some ad) l0_3.length c0_3) ∧ w'.cell? ⟨ga, 2, none⟩ = some (.string a0_2) ∧ w'.cell? ⟨ad.block, ad.off + 2, none⟩ = some (.int .i64 (rd l0_3 2))) (first | exact HSf2.out _ (by repeat (first | exact Below.refl _ _ | exact HWE.out | apply below_drew1 | apply pw_below_drewN))) (first | (go_at_call 155; (with_reducible refine (impl_DecodeBlocks.calls k m0 m1 A2 c2 l2 A3 c3 l3 (rd l0_3 2) a0_2 d0 d1 d2 ok2 _ ?s1 ?s2 ?s3 ?s4 B2_.out).mono ?_); (case s1 => exact Kd.C_below HC2.out Qj0_); (case s2 => exact HL2.out); (case s3 => exact Kd.C_below HC3.out Qj0_); (case s4 => exact HL3.out); rintro e w5 ⟨u0, u1, rfl, ho0, ho1, hb⟩; have HWE := Aside0.mk (below_step (show Below wc.heap.size wc _ from Qj0_) hb); have HE := Aside0.mk (And.intro (below_step (below_step HD.out.1 Qj0_) hb) (And.intro (Kd.R_lower (Kd.R_mono ho0 (fun _ _ => trivial)) (below_step HD.out.1 Qj0_).size) (Kd.R_lower (Kd.R_mono ho1 (fun _ _ => trivial)) (below_step HD.out.1 Qj0_).size))); clear ho0 ho1 hb))
   all_goals (go_wp2; go_meet; exact ⟨_, _, rfl, rfl, rfl, rfl, ⟨HE.out⟩⟩)
  case rest =>
   obtain ⟨u0, u1, rfl, rfl, rfl, rfl, HE⟩ := hcut
   obtain ⟨D0, x0, e0, hz0, hZ0⟩ := Kd.R_reads HE.out.2.1
   subst e0
   obtain ⟨D1, x1, e1, hz1, hZ1⟩ := Kd.R_reads HE.out.2.2
   subst e1
   have HZ0 := Aside0.mk hZ0
   have HZ1 := Aside0.mk hZ1
   have HY0 := Aside0.mk hz0
   have HY1 := Aside0.mk hz1
   clear hZ0 hZ1 hz0 hz1
   go_wp2_with (first | (go_at_call 5; (with_reducible refine (impl_ListText.calls k D0 x0 d0 t1 ok3 _ ?HB51 ?HB52 ?HB53 B3_.out).mono ?_); (case HB51 => exact HZ0.out); (case HB52 => exact HY0.out); (case HB53 => exact tabBelow HT.out HE.out.1); rintro e w5 ⟨rfl, hb⟩; have HB5 := Aside0.mk (below_step HE.out.1 hb); have HBL := Aside0.mk hb; clear hb) | (go_at_call 5; (with_reducible refine (impl_ListText.calls k D1 x1 d1 t2 ok4 _ ?HB61 ?HB62 ?HB63 B4_.out).mono ?_); (case HB61 => exact Kd.C_below HZ1.out HBL.out); (case HB62 => exact HY1.out); (case HB63 => exact tabBelow HT.out HB5.out); rintro e w6 ⟨rfl, hb⟩; have HB6 := Aside0.mk (below_step HB5.out hb); have HBL := Aside0.mk hb; clear hb))
   all_goals (go_ret2; exact ⟨Qc0_, HB6.out⟩)
mutual
def impl_VoteBits.j0 : Nat → ByteArray → Int → Bool → Option (ByteArray × Bool)
 | 0, _, _, _ => none
 | k + 1, x0, x1, x21 => if x21 = true then (some ((⟨#[]⟩ : ByteArray), false)) else (impl_VoteBits.l0 k x0 x1 (⟨#[]⟩ : ByteArray))
def impl_VoteBits.l0 : Nat → ByteArray → Int → ByteArray → Option (ByteArray × Bool)
 | 0, _, _, _ => none
 | k + 1, x0, x1, x6 => if x0.toList = ([] : List UInt8) then (some (x6, true)) else (if 0 ≤ x1 then (if x1 ≤ (x0.size : Int) then ((strings_Count.f (x0.extract 0 (x1 : Int).toNat) (⟨#[49]⟩ : ByteArray)).bind fun t307 => ((impl_bitOf.f (decide ((wrap64 (2 * t307)) > x1))).bind fun t308 => (if x6.size + t308.size ≤ 9223372036854775807 then (impl_VoteBits.l0 k (x0.extract (x1 : Int).toNat x0.size) x1 (x6 ++ t308)) else (none)))) else (none)) else (none))
end
def impl_VoteBits.f (k : Nat) (a0 : ByteArray) (a1 : Int) : Option (ByteArray × Bool) := (impl_IsBits.f a0).bind fun t305 => (if t305 = true then ((impl_isVotes.f a1).bind fun t306 => (if t306 = true then (if a1 = 0 then (none) else (impl_VoteBits.j0 k a0 a1 (((a0.size : Int) % a1) != 0))) else (impl_VoteBits.j0 k a0 a1 true))) else (impl_VoteBits.j0 k a0 a1 true))
set_option maxHeartbeats 8000000 in
set_option maxRecDepth 100000 in
theorem impl_VoteBits.calls (k : Nat) (a0 : ByteArray) (a1 : Int) (r1 : ByteArray) (r2 : Bool) (w : World) (h : impl_VoteBits.f k a0 a1 = some (r1, r2)) :
 Calls Tryz.prog 156 #[.string a0, .int .i64 a1] w fun e w' => e = .returned (.tuple #[.string r1, .bool r2]) ∧ Below w.heap.size w w' := by
 have HB := Aside0.mk (Below.refl w.heap.size w)
 have H : ((impl_IsBits.f a0).bind fun t305 => (if t305 = true then ((impl_isVotes.f a1).bind fun t306 => (if t306 = true then (if a1 = 0 then (none) else (impl_VoteBits.j0 k a0 a1 (((a0.size : Int) % a1) != 0))) else (impl_VoteBits.j0 k a0 a1 true))) else (impl_VoteBits.j0 k a0 a1 true))) = some (r1, r2) := h
 clear h
 have HC3 := Aside0.mk H
 clear H
 go_enter Tryz.func156, Tryz.ntmps156
 go_upto_region 1 with (fail)
 go_cut [21] (fun v21 wc => ∃ (kq : Nat) (x21_2 : Bool), v21 = .bool x21_2 ∧ Aside0 (impl_VoteBits.j0 kq a0 a1 x21_2 = some (r1, r2)) ∧ Aside0 (kq ≤ k) ∧ Aside0 (Below w.heap.size w wc))
 case first =>
  have H := HC3.out
  clear HC3
  replace H := Option.bind_eq_some_iff.mp H
  obtain ⟨t305, A40, H⟩ := H
  try dsimp only at H
  have A4 := Aside0.mk A40
  clear A40
  by_cases c5 : t305 = true
  ·subst c5
   rw [if_pos rfl] at H
   have H1 := H
   clear H
   have H := H1
   clear H1
   replace H := Option.bind_eq_some_iff.mp H
   obtain ⟨t306, A60, H⟩ := H
   try dsimp only at H
   have A6 := Aside0.mk A60
   clear A60
   by_cases c7 : t306 = true
   ·subst c7
    rw [if_pos rfl] at H
    have H1 := H
    clear H
    have H := H1
    clear H1
    by_cases c8 : a1 = 0
    ·rw [if_pos c8] at H
     exact absurd H (by simp)
    ·rw [if_neg c8] at H
     have c8b0 := beq_eq_false_iff_ne.mpr c8
     have c8b1 := bne_iff_ne.mpr c8
     (first | rw [c8b0] | (simp only [i64_w, i32_w]; rw [c8b0]) | skip)
     have H' := Aside0.mk H
     clear H
     go_wp2_with (first | ((with_reducible refine gate_callee (f := 41) rfl ?_); refine goesL_ (some 8) rfl rfl Tryz.func41 Qi0_ rfl #[.string a0] rfl Qb0_ ?_; (with_reducible refine (impl_IsBits.calls a0 true _ A4.out).mono ?_); rintro e w9 ⟨rfl, hb⟩; refine ⟨_, rfl, ?_⟩; have n0_ := Aside0.mk (below_step Qa0_ hb); clear HB; have HB := n0_; clear n0_; (try clear hb); (try clear hb2); (try clear hk); (try clear hi)) | (go_at_call 42; (with_reducible refine (impl_isVotes.calls a1 true _ A6.out).mono ?_); rintro e w' ⟨rfl, ⟨nd, rfl⟩⟩))
     go_meet
     case rel => exact ⟨_, ((((a0.size : Int) % a1) != 0)), Qc0_, H', ⟨Qa1_⟩, ⟨Qa0_⟩⟩
   ·replace c7 := Bool.eq_false_iff.mpr c7
    subst c7
    rw [if_neg (show ¬ (false = true) by decide)] at H
    have H1 := H
    clear H
    have H := H1
    clear H1
    have H' := Aside0.mk H
    clear H
    go_wp2_with (first | ((with_reducible refine gate_callee (f := 41) rfl ?_); refine goesL_ (some 8) rfl rfl Tryz.func41 Qi0_ rfl #[.string a0] rfl Qb0_ ?_; (with_reducible refine (impl_IsBits.calls a0 true _ A4.out).mono ?_); rintro e w10 ⟨rfl, hb⟩; refine ⟨_, rfl, ?_⟩; have n0_ := Aside0.mk (below_step Qa0_ hb); clear HB; have HB := n0_; clear n0_; (try clear hb); (try clear hb2); (try clear hk); (try clear hi)) | (go_at_call 42; (with_reducible refine (impl_isVotes.calls a1 false _ A6.out).mono ?_); rintro e w' ⟨rfl, ⟨nd, rfl⟩⟩))
    go_meet
    case rel => exact ⟨_, (true), Qc0_, H', ⟨Qa1_⟩, ⟨Qa0_⟩⟩
  ·replace c5 := Bool.eq_false_iff.mpr c5
   subst c5
   rw [if_neg (show ¬ (false = true) by decide)] at H
   have H1 := H
   clear H
   have H := H1
   clear H1
   have H' := Aside0.mk H
   clear H
   go_wp2_with (first | ((with_reducible refine gate_callee (f := 41) rfl ?_); refine goesL_ (some 8) rfl rfl Tryz.func41 Qi0_ rfl #[.string a0] rfl Qb0_ ?_; (with_reducible refine (impl_IsBits.calls a0 false _ A4.out).mono ?_); rintro e w11 ⟨rfl, hb⟩; refine ⟨_, rfl, ?_⟩; have n0_ := Aside0.mk (below_step Qa0_ hb); clear HB; have HB := n0_; clear n0_; (try clear hb); (try clear hb2); (try clear hk); (try clear hi)))
   go_meet
   case rel => exact ⟨_, (true), Qc0_, H', ⟨Qa1_⟩, ⟨Qa0_⟩⟩
 case rest =>
  clear HC3
  try clear c1
  try clear p2
  try clear c4
  try clear c5
  try clear c7
  try clear c8
  try clear c8b0
  try clear c8b1
  obtain ⟨kq, x21_2, rfl, HA, HJ2, HB⟩ := hcut
  cases kq with
  | zero => exact absurd HA.out (by simp [impl_VoteBits.j0])
  | succ kj2 =>
   have H := HA.out
   clear HA
   simp only [impl_VoteBits.j0] at H
   by_cases c12 : x21_2 = true
   ·subst c12
    rw [if_pos rfl] at H
    have H1 := H
    clear H
    have H := H1
    clear H1
    simp only [Option.some.injEq, Prod.mk.injEq] at H
    obtain ⟨rfl, rfl⟩ := H
    go_wp2
    go_ret2
    exact ⟨Qe0_, Qa0_⟩
   ·replace c12 := Bool.eq_false_iff.mpr c12
    subst c12
    rw [if_neg (show ¬ (false = true) by decide)] at H
    have H1 := H
    clear H
    have H := H1
    clear H1
    have H' := Aside0.mk H
    clear H
    go_wp2
    go_loopg [0, 6] kj2 (fun kq v0 v6 w' => ∃ (x0_2 : ByteArray) (x6_2 : ByteArray), v0 = .string x0_2 ∧ v6 = .string x6_2 ∧ Aside0 (impl_VoteBits.l0 kq x0_2 a1 x6_2 = some (r1, r2)) ∧ Aside0 (kq ≤ kj2) ∧ Aside0 (Below w.heap.size w w'))
    case atStart => exact ⟨(a0), ((⟨#[]⟩ : ByteArray)), Qc0_, Qc0_, H', ⟨Nat.le_refl _⟩, ⟨Qa0_⟩⟩
    case round =>
     clear H'
     try clear c1
     try clear p2
     try clear c4
     try clear c5
     try clear c7
     try clear c8
     try clear c8b0
     try clear c8b1
     try clear c12
     try clear p2
     obtain ⟨x0_2, x6_2, rfl, rfl, HA, HK2, HB⟩ := hrel
     cases gk with
     | zero => exact absurd HA.out (by simp [impl_VoteBits.l0])
     | succ k2 =>
      have H := HA.out
      clear HA
      simp only [impl_VoteBits.l0] at H
      by_cases c13 : x0_2.toList = ([] : List UInt8)
      ·rw [if_pos c13] at H
       have c13b0 := beq_iff_eq.mpr c13
       have c13b1 := bne_eq_false_iff_eq.mpr c13
       clear c13
       simp only [Option.some.injEq, Prod.mk.injEq] at H
       obtain ⟨rfl, rfl⟩ := H
       go_wp2
       go_ret2
       exact ⟨Qe0_, Qa0_⟩
      ·rw [if_neg c13] at H
       have c13b0 := beq_eq_false_iff_ne.mpr c13
       have c13b1 := bne_iff_ne.mpr c13
       by_cases c14 : 0 ≤ a1
       ·rw [if_pos c14] at H
        have c14b0 := eq_true c14
        have c14b1 := decide_eq_true c14
        clear c14
        by_cases c15 : a1 ≤ (x0_2.size : Int)
        ·rw [if_pos c15] at H
         have c15b0 := eq_true c15
         have c15b1 := decide_eq_true c15
         clear c15
         replace H := Option.bind_eq_some_iff.mp H
         obtain ⟨t307, A160, H⟩ := H
         try dsimp only at H
         have A16 := Aside0.mk A160
         clear A160
         replace H := Option.bind_eq_some_iff.mp H
         obtain ⟨t308, A170, H⟩ := H
         try dsimp only at H
         have A17 := Aside0.mk A170
         clear A170
         by_cases c18 : x6_2.size + t308.size ≤ 9223372036854775807
         ·rw [if_pos c18] at H
          have c18b0 := eq_true c18
          have c18b1 := decide_eq_true c18
          try have c18b2 := eq_false (Nat.not_lt.2 c18)
          have c19b0 := eq_true (of_decide_eq_true Qf0_ : 0 ≤ a1)
          have c20b0 := eq_true (of_decide_eq_true Qf0_ : a1 ≤ (x0_2.size : Int))
          have H' := Aside0.mk H
          clear H
          go_wp2_with (first | ((with_reducible refine gate_callee (f := 103) rfl ?_); refine goesL_ (some 31) rfl rfl Tryz.func103 Qi0_ rfl #[.string (x0_2.extract 0 (a1 : Int).toNat), .string (⟨#[49]⟩ : ByteArray)] rfl Qb0_ ?_; (with_reducible refine (strings_Count.calls (x0_2.extract 0 (a1 : Int).toNat) (⟨#[49]⟩ : ByteArray) t307 _ A16.out).mono ?_); rintro e w' ⟨rfl, ⟨nd, rfl⟩⟩; refine ⟨_, rfl, ?_⟩) | ((with_reducible refine gate_callee (f := 104) rfl ?_); refine goesL_ (some 35) rfl rfl Tryz.func104 Qi0_ rfl #[.bool (decide ((wrap64 (2 * t307)) > a1))] rfl Qb0_ ?_; (with_reducible refine (impl_bitOf.calls (decide ((wrap64 (2 * t307)) > a1)) t308 _ A17.out).mono ?_); rintro e w' ⟨rfl, ⟨nd, rfl⟩⟩; refine ⟨_, rfl, ?_⟩))
          go_roundg k2
          case measure => have := HJ2.out; have := HK2.out; omega
          case rel => exact ⟨(x0_2.extract (a1 : Int).toNat x0_2.size), (x6_2 ++ t308), Qc0_, Qc0_, H', ⟨by have := HJ2.out; have := HK2.out; omega⟩, ⟨Qa0_⟩⟩
         ·rw [if_neg c18] at H
          exact absurd H (by simp)
        ·rw [if_neg c15] at H
         exact absurd H (by simp)
       ·rw [if_neg c14] at H
        exact absurd H (by simp)
def impl_edges.f (k : Nat) (a0 : ByteArray) : Option (List Int) := none
theorem impl_edges.calls (k : Nat) (a0 : ByteArray) (r : List Int) (w : World) (h : impl_edges.f k a0 = some r) :
 Calls Tryz.prog 158 #[.string a0] w fun e w' => ∃ v0_ : Value, e = .returned (v0_) ∧ Kd.R (Kd.int .i64) 2 w' w.heap.size (fun _ => True) v0_ r ∧ Below w.heap.size w w' :=
 absurd h (by simp [impl_edges.f])
def impl_ReceiveBits.f (k : Nat) (a0 : ByteArray) (a1 a2 : Int) (l3 : List Int) : Option (ByteArray × Bool) := none
theorem impl_ReceiveBits.calls (k : Nat) (a0 : ByteArray) (a1 : Int) (a2 : Int) (A3 : Option Addr) (c3 : Nat) (l3 : List Int) (r1 : ByteArray) (r2 : Bool) (w : World) (hr3 : Kd.C (Kd.int .i64) w A3 l3.length l3) (hc3 : l3.length ≤ c3) (h : impl_ReceiveBits.f k a0 a1 a2 l3 = some (r1, r2)) :
 Calls Tryz.prog 157 #[.string a0, .int .i64 a1, .int .i64 a2, .slice A3 l3.length c3] w fun e w' => e = .returned (.tuple #[.string r1, .bool r2]) ∧ Below w.heap.size w w' :=
 absurd h (by simp [impl_ReceiveBits.f])
end Go.Proofs.YtbjmbfjbjkhhdaaGreatDoor.QFnTopOfAll
