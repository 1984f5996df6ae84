/- Made small by wip/pack.py: lemmas and contracts that the law's row leans on. -/
import Derived.Test.YtdnjebnmianogaaGreatDoorZFnTop27
import Derived.Test.YtdnjebnmianogaaGreatDoorZFnTop28
import Derived.Test.YtdnjebnmianogaaGreatDoorZFnTop30
import Derived.Test.YtdnjebnmianogaaGreatDoorZFnTop31
namespace Go.Proofs.YtdnjebnmianogaaGreatDoor.QFnTop
open Go.RowKit Go.Proofs.YtdnjebnmianogaaGreatDoorW.PrintWords Go.Proofs.YtdnjebnmianogaaGreatDoorW.PrintLast Go.Proofs.YtdnjebnmianogaaGreatDoorW.PrintMore
attribute [local go_sem] max2_int min2_int max_two min_two max_three min_three max_four min_four
set_option linter.unusedVariables false
set_option linter.unusedSimpArgs false
def EbI (w w' : World) (gb : Nat) (cs : Array Value) : Prop := w'.heap[gb]? = some (.cells cs 26 (0, 0)) ∧ Below w.heap.size w w'
theorem EbI.below {w w1 w2 : World} {gb : Nat} {cs : Array Value} (h : EbI w w1 gb cs) (hB : Below w1.heap.size w1 w2) : EbI w w2 gb cs := ⟨(hB.block gb (blk_lt h.1)).trans h.1, below_step h.2 hB⟩
theorem EbI.drewN {w w1 : World} {gb : Nat} {cs : Array Value} (h : EbI w w1 gb cs) (n : Nat) : EbI w (w1.drewN n) gb cs := ⟨h.1, pw_below_drewN h.2 n⟩
set_option maxHeartbeats 8000000 in
set_option maxRecDepth 100000 in
theorem bw_minus (a b : Int) (v2 v3 : Value) (st : Int) (w : World) (h : st < 0) (h2 : v2.cells = #[v2]) (h3 : v3.cells = #[v3]) :
 Calls Tryz.prog 30 #[.agg #[.int .i64 a, .int .i64 b, v2, v3], .int .i64 st] w fun e w' => e = .returned (.tuple #[v2, v3]) ∧ Below w.heap.size w w' := by
 have hu66 := Tryz.underlying26
 have HB := Aside0.mk (Below.refl w.heap.size w)
 have c1b0 := decide_eq_true h
 clear h
 go_enter Tryz.func30, Tryz.ntmps30
 go_wp2_with (first | ((with_reducible refine gate_dst (N := 2) rfl ?_); (try (refine gate_guard (by rfl) ?_; dsimp only)); refine box_event ?hg (N := 2) ?hd (cs := #[.int .i64 a, .int .i64 b, v2, v3]) (t := 26) ?hr ?_; (case hd => rfl); (case hg => rfl); (case hr => exact Qg0_); intro gb hggb w_ hbox hb; have n0_ := Aside0.mk (below_step Qa0_ hb); have n1_ := Aside0.mk (hbox); clear HB; have HB := n0_; have BKgb := n1_; clear n0_ n1_; clear hb hbox hggb; have hczgb2 : w_.cell? ⟨gb, 2, none⟩ = some (v2) := (blk_cell BKgb.out 2).trans rfl; have hczgb3 : w_.cell? ⟨gb, 3, none⟩ = some (v3) := (blk_cell BKgb.out 3).trans rfl))
 go_quiet (fail)
 go_wp2
 go_ret2
 exact ⟨Qc0_, Qa0_⟩
set_option maxHeartbeats 8000000 in
set_option maxRecDepth 100000 in
theorem bw_plus (a b : Int) (v2 v3 : Value) (st : Int) (w : World) (h : ¬ st < 0) (h2 : v2.cells = #[v2]) (h3 : v3.cells = #[v3]) :
 Calls Tryz.prog 30 #[.agg #[.int .i64 a, .int .i64 b, v2, v3], .int .i64 st] w fun e w' => e = .returned (.tuple #[v3, v2]) ∧ Below w.heap.size w w' := by
 have hu66 := Tryz.underlying26
 have HB := Aside0.mk (Below.refl w.heap.size w)
 have c1b0 := decide_eq_false h
 clear h
 go_enter Tryz.func30, Tryz.ntmps30
 go_wp2_with (first | ((with_reducible refine gate_dst (N := 2) rfl ?_); (try (refine gate_guard (by rfl) ?_; dsimp only)); refine box_event ?hg (N := 2) ?hd (cs := #[.int .i64 a, .int .i64 b, v2, v3]) (t := 26) ?hr ?_; (case hd => rfl); (case hg => rfl); (case hr => exact Qg0_); intro gb hggb w_ hbox hb; have n0_ := Aside0.mk (below_step Qa0_ hb); have n1_ := Aside0.mk (hbox); clear HB; have HB := n0_; have BKgb := n1_; clear n0_ n1_; clear hb hbox hggb; have hczgb2 : w_.cell? ⟨gb, 2, none⟩ = some (v2) := (blk_cell BKgb.out 2).trans rfl; have hczgb3 : w_.cell? ⟨gb, 3, none⟩ = some (v3) := (blk_cell BKgb.out 3).trans rfl))
 go_quiet (fail)
 go_wp2
 go_ret2
 exact ⟨Qc0_, Qa0_⟩
def impl_EncodeBlocks.l0 : Nat → List ByteArray → List ByteArray → List Int → ByteArray → Int → Int → Option (ByteArray × Int × Bool)
 | 0, _, _, _, _, _, _ => none
 | k + 1, mi, pl, ds, out, st, i => if i < (ds.length : Int) then (if 0 ≤ i then (if 0 ≤ (rd ds i) then (if (rd ds i) < ((if st < 0 then mi else pl).length : Int) then (if out.size ≤ 100000 ∧ (rdOf ByteArray.empty (if st < 0 then mi else pl) (rd ds i)).size ≤ 100000 then ((impl_stateBehind.f st (rdOf ByteArray.empty (if st < 0 then mi else pl) (rd ds i))).bind fun t => (impl_EncodeBlocks.l0 k mi pl ds (out ++ (rdOf ByteArray.empty (if st < 0 then mi else pl) (rd ds i))) t (wrap64 (i + 1)))) else (none)) else (none)) else (none)) else (none)) else (some (out, st, true))
def impl_EncodeBlocks.f (k : Nat) (a0_0 a0_1 : Int) (l0_2 l0_3 : List ByteArray) (a1 : Int) (l2 : List Int) : Option (ByteArray × Int × Bool) := (impl_ValidBlockCode.f k a0_0 a0_1 l0_2 l0_3).bind fun t1 => (if t1 = true then (if 0 ≤ a0_0 ∧ a0_0 ≤ 60 ∧ 1 ≤ a0_1 ∧ a0_1 ≤ 1000 then ((impl_isLineState.f a1).bind fun t2 => (if t2 = true then ((impl_areIn.f k l2 0 (wrap64 ((shl .i64 1 a0_0) - 1))).bind fun t3 => (if t3 = true then (if (l2.length : Int) > 400 / a0_1 then (some ((⟨#[]⟩ : ByteArray), 0, false)) else (impl_EncodeBlocks.l0 k l0_2 l0_3 l2 (⟨#[]⟩ : ByteArray) a1 0)) else (some ((⟨#[]⟩ : ByteArray), 0, false)))) else (some ((⟨#[]⟩ : ByteArray), 0, false)))) else none) else (some ((⟨#[]⟩ : ByteArray), 0, false)))
set_option maxHeartbeats 8000000 in
set_option maxRecDepth 100000 in
theorem impl_EncodeBlocks.calls (k : Nat) (a0_0 : Int) (a0_1 : Int) (A0_2 : Option Addr) (c0_2 : Nat) (l0_2 : List ByteArray) (A0_3 : Option Addr) (c0_3 : Nat) (l0_3 : List ByteArray) (a1 : Int) (A2 : Option Addr) (c2 : Nat) (l2 : List Int) (r1 : ByteArray) (r2 : Int) (r3 : Bool) (w : World) (hr0_2 : Kd.C Kd.string w A0_2 l0_2.length l0_2) (hc0_2 : l0_2.length ≤ c0_2) (hr0_3 : Kd.C Kd.string w A0_3 l0_3.length l0_3) (hc0_3 : l0_3.length ≤ c0_3) (hr2 : Kd.C (Kd.int .i64) w A2 l2.length l2) (hc2 : l2.length ≤ c2) (h : impl_EncodeBlocks.f k a0_0 a0_1 l0_2 l0_3 a1 l2 = some (r1, r2, r3)) :
 Calls Tryz.prog 8 #[.agg #[.int .i64 a0_0, .int .i64 a0_1, .slice A0_2 l0_2.length c0_2, .slice A0_3 l0_3.length c0_3], .int .i64 a1, .slice A2 l2.length c2] w fun e w' => e = .returned (.tuple #[.string r1, .int .i64 r2, .bool r3]) ∧ Below w.heap.size w w' := by
 have hu66 := Tryz.underlying26
 have HR0_2 := Aside0.mk hr0_2
 have HC0_2 := Aside0.mk hc0_2
 have HR0_3 := Aside0.mk hr0_3
 have HC0_3 := Aside0.mk hc0_3
 have HR2 := Aside0.mk hr2
 have HC2 := Aside0.mk hc2
 have HB := Aside0.mk (Below.refl w.heap.size w)
 clear hr0_2 hc0_2 hr0_3 hc0_3 hr2 hc2
 unfold impl_EncodeBlocks.f at h
 obtain ⟨t1, A1, h⟩ := Option.bind_eq_some_iff.mp h
 have A1_ := Aside0.mk A1
 clear A1
 cases t1 with
 | false =>
  replace h : some ((⟨#[]⟩ : ByteArray), (0 : Int), false) = some (r1, r2, r3) := h
  simp only [Option.some.injEq, Prod.mk.injEq] at h
  obtain ⟨rfl, rfl, rfl⟩ := h
  go_enter Tryz.func8, Tryz.ntmps8
  go_wp2_with (first | ((with_reducible refine gate_dst (N := 3) rfl ?_); (try (refine gate_guard (by rfl) ?_; dsimp only)); refine box_event ?hg (N := 3) ?hd (cs := #[.int .i64 a0_0, .int .i64 a0_1, .slice A0_2 l0_2.length c0_2, .slice A0_3 l0_3.length c0_3]) (t := 26) ?hr ?_; (case hd => rfl); (case hg => rfl); (case hr => exact Qg0_); intro gb hggb w3 hbox hb; have n0_ := Aside0.mk (below_step Qa0_ hb); have n1_ := Aside0.mk (hbox); clear HB; have HB := n0_; have BKgb := n1_; clear n0_ n1_; clear hb hbox hggb; have hczgb0 : w3.cell? ⟨gb, 0, none⟩ = some (.int .i64 a0_0) := (blk_cell BKgb.out 0).trans rfl; have hczgb1 : w3.cell? ⟨gb, 1, none⟩ = some (.int .i64 a0_1) := (blk_cell BKgb.out 1).trans rfl; have hczgb2 : w3.cell? ⟨gb, 2, none⟩ = some (.slice A0_2 l0_2.length c0_2) := (blk_cell BKgb.out 2).trans rfl; have hczgb3 : w3.cell? ⟨gb, 3, none⟩ = some (.slice A0_3 l0_3.length c0_3) := (blk_cell BKgb.out 3).trans rfl) | (go_at_call 28; (with_reducible refine (impl_ValidBlockCode.calls k a0_0 a0_1 A0_2 c0_2 l0_2 A0_3 c0_3 l0_3 false _ ?v1 ?v2 ?v3 ?v4 A1_.out).mono ?_); (case v1 => exact Kd.C_below HR0_2.out HB.out); (case v2 => exact HC0_2.out); (case v3 => exact Kd.C_below HR0_3.out HB.out); (case v4 => exact HC0_3.out); rintro e w4 ⟨rfl, hb4⟩; have HI := Aside0.mk (EbI.below ⟨BKgb.out, HB.out⟩ hb4); clear hb4; have hcw0 : w4.cell? ⟨gb, 0, none⟩ = some (.int .i64 a0_0) := (blk_cell HI.out.1 0).trans rfl; have hcw1 : w4.cell? ⟨gb, 1, none⟩ = some (.int .i64 a0_1) := (blk_cell HI.out.1 1).trans rfl))
  go_ret3
  exact ⟨Qc0_, HI.out.2⟩
 | true =>
 rw [if_pos rfl] at h
 by_cases c0 : 0 ≤ a0_0 ∧ a0_0 ≤ 60 ∧ 1 ≤ a0_1 ∧ a0_1 ≤ 1000
 rotate_left
 ·rw [if_neg c0] at h
  cases h
 rw [if_pos c0] at h
 have c0b0 := eq_true c0.1
 have c0b1 : decide (0 ≤ a0_0) = true := decide_eq_true c0.1
 have c064t : (a0_0 ≤ 64) = True := eq_true (by omega)
 have c0b2 : (a0_1 == 0) = false := beq_eq_false_iff_ne.2 (by omega)
 have c0b3 : a0_1 ≠ 0 := by omega
 have c0b4 : 1 ≤ a0_1 := c0.2.2.1
 have c0b5 : a0_1 ≤ 1000 := c0.2.2.2
 obtain ⟨ji, hji⟩ : ∃ j_ : Int, (shl .i64 1 a0_0) = j_ := ⟨_, rfl⟩
 rw [hji] at h
 have hji_ : (IntKind.i64.wrap (1 * 2 ^ min a0_0.toNat 64)) = ji := hji
 have hjiz : (IntKind.i64.wrap (1 * 2 ^ a0_0.toNat)) = ji := shl_small hji (of_eq_true c064t)
 have hjiu : (IntKind.i64.wrap (2 ^ min a0_0.toNat 64)) = ji := by have h_ := hji_; rw [Int.one_mul] at h_; exact h_
 have hjiv : (IntKind.i64.wrap (2 ^ a0_0.toNat)) = ji := by have h_ := hjiz; rw [Int.one_mul] at h_; exact h_
 have hjiy : (wrap64 (1 * 2 ^ min a0_0.toNat 64)) = ji := (i64_w _).symm.trans hji_
 have hjix : (wrap64 (1 * 2 ^ a0_0.toNat)) = ji := (i64_w _).symm.trans hjiz
 clear c0 hji
 obtain ⟨jm, hjm⟩ : ∃ j_ : Int, wrap64 (ji - 1) = j_ := ⟨_, rfl⟩
 rw [hjm] at h
 have hjmw : (IntKind.i64.wrap (ji - 1)) = jm := (i64_w _).trans hjm
 obtain ⟨t2, A2, h⟩ := Option.bind_eq_some_iff.mp h
 have A2_ := Aside0.mk A2
 clear A2
 cases t2 with
 | false =>
  replace h : some ((⟨#[]⟩ : ByteArray), (0 : Int), false) = some (r1, r2, r3) := h
  simp only [Option.some.injEq, Prod.mk.injEq] at h
  obtain ⟨rfl, rfl, rfl⟩ := h
  go_enter Tryz.func8, Tryz.ntmps8
  go_wp2_with (first | ((with_reducible refine gate_dst (N := 3) rfl ?_); (try (refine gate_guard (by rfl) ?_; dsimp only)); refine box_event ?hg (N := 3) ?hd (cs := #[.int .i64 a0_0, .int .i64 a0_1, .slice A0_2 l0_2.length c0_2, .slice A0_3 l0_3.length c0_3]) (t := 26) ?hr ?_; (case hd => rfl); (case hg => rfl); (case hr => exact Qg0_); intro gb hggb w3 hbox hb; have n0_ := Aside0.mk (below_step Qa0_ hb); have n1_ := Aside0.mk (hbox); clear HB; have HB := n0_; have BKgb := n1_; clear n0_ n1_; clear hb hbox hggb; have hczgb0 : w3.cell? ⟨gb, 0, none⟩ = some (.int .i64 a0_0) := (blk_cell BKgb.out 0).trans rfl; have hczgb1 : w3.cell? ⟨gb, 1, none⟩ = some (.int .i64 a0_1) := (blk_cell BKgb.out 1).trans rfl; have hczgb2 : w3.cell? ⟨gb, 2, none⟩ = some (.slice A0_2 l0_2.length c0_2) := (blk_cell BKgb.out 2).trans rfl; have hczgb3 : w3.cell? ⟨gb, 3, none⟩ = some (.slice A0_3 l0_3.length c0_3) := (blk_cell BKgb.out 3).trans rfl) | (go_at_call 28; (with_reducible refine (impl_ValidBlockCode.calls k a0_0 a0_1 A0_2 c0_2 l0_2 A0_3 c0_3 l0_3 true _ ?v1 ?v2 ?v3 ?v4 A1_.out).mono ?_); (case v1 => exact Kd.C_below HR0_2.out HB.out); (case v2 => exact HC0_2.out); (case v3 => exact Kd.C_below HR0_3.out HB.out); (case v4 => exact HC0_3.out); rintro e w4 ⟨rfl, hb4⟩; have HI := Aside0.mk (EbI.below ⟨BKgb.out, HB.out⟩ hb4); clear hb4; have hcw0 : w4.cell? ⟨gb, 0, none⟩ = some (.int .i64 a0_0) := (blk_cell HI.out.1 0).trans rfl; have hcw1 : w4.cell? ⟨gb, 1, none⟩ = some (.int .i64 a0_1) := (blk_cell HI.out.1 1).trans rfl) | (go_at_call 29; (with_reducible refine (impl_isLineState.calls a1 false _ A2_.out).mono ?_); rintro e w5 ⟨rfl, ⟨nd2, rfl⟩⟩))
  go_ret3
  exact ⟨Qc0_, (HI.out.drewN _).2⟩
 | true =>
 rw [if_pos rfl] at h
 obtain ⟨t3, A3, h⟩ := Option.bind_eq_some_iff.mp h
 have A3_ := Aside0.mk A3
 clear A3
 cases t3 with
 | false =>
  replace h : some ((⟨#[]⟩ : ByteArray), (0 : Int), false) = some (r1, r2, r3) := h
  simp only [Option.some.injEq, Prod.mk.injEq] at h
  obtain ⟨rfl, rfl, rfl⟩ := h
  go_enter Tryz.func8, Tryz.ntmps8
  go_wp2_with (first | ((with_reducible refine gate_dst (N := 3) rfl ?_); (try (refine gate_guard (by rfl) ?_; dsimp only)); refine box_event ?hg (N := 3) ?hd (cs := #[.int .i64 a0_0, .int .i64 a0_1, .slice A0_2 l0_2.length c0_2, .slice A0_3 l0_3.length c0_3]) (t := 26) ?hr ?_; (case hd => rfl); (case hg => rfl); (case hr => exact Qg0_); intro gb hggb w3 hbox hb; have n0_ := Aside0.mk (below_step Qa0_ hb); have n1_ := Aside0.mk (hbox); clear HB; have HB := n0_; have BKgb := n1_; clear n0_ n1_; clear hb hbox hggb; have hczgb0 : w3.cell? ⟨gb, 0, none⟩ = some (.int .i64 a0_0) := (blk_cell BKgb.out 0).trans rfl; have hczgb1 : w3.cell? ⟨gb, 1, none⟩ = some (.int .i64 a0_1) := (blk_cell BKgb.out 1).trans rfl; have hczgb2 : w3.cell? ⟨gb, 2, none⟩ = some (.slice A0_2 l0_2.length c0_2) := (blk_cell BKgb.out 2).trans rfl; have hczgb3 : w3.cell? ⟨gb, 3, none⟩ = some (.slice A0_3 l0_3.length c0_3) := (blk_cell BKgb.out 3).trans rfl) | (go_at_call 28; (with_reducible refine (impl_ValidBlockCode.calls k a0_0 a0_1 A0_2 c0_2 l0_2 A0_3 c0_3 l0_3 true _ ?v1 ?v2 ?v3 ?v4 A1_.out).mono ?_); (case v1 => exact Kd.C_below HR0_2.out HB.out); (case v2 => exact HC0_2.out); (case v3 => exact Kd.C_below HR0_3.out HB.out); (case v4 => exact HC0_3.out); rintro e w4 ⟨rfl, hb4⟩; have HI := Aside0.mk (EbI.below ⟨BKgb.out, HB.out⟩ hb4); clear hb4; have hcw0 : w4.cell? ⟨gb, 0, none⟩ = some (.int .i64 a0_0) := (blk_cell HI.out.1 0).trans rfl; have hcw1 : w4.cell? ⟨gb, 1, none⟩ = some (.int .i64 a0_1) := (blk_cell HI.out.1 1).trans rfl) | (go_at_call 29; (with_reducible refine (impl_isLineState.calls a1 true _ A2_.out).mono ?_); rintro e w5 ⟨rfl, ⟨nd2, rfl⟩⟩) | (go_at_call 26; (with_reducible refine (impl_areIn.calls k A2 c2 l2 0 jm false _ ?i1 ?i2 A3_.out).mono ?_); (case i1 => exact Kd.C_below HR2.out (pw_below_drewN HI.out.2 _)); (case i2 => exact HC2.out); rintro e w6 ⟨rfl, ⟨nd3, rfl⟩⟩))
  go_ret3
  exact ⟨Qc0_, (HI.out.drewN _).2⟩
 | true =>
 rw [if_pos rfl] at h
 obtain ⟨jq, hjq⟩ : ∃ j_ : Int, 400 / a0_1 = j_ := ⟨_, rfl⟩
 rw [hjq] at h
 have hjq0 : 0 ≤ jq := by rw [← hjq]; exact Int.ediv_nonneg (by decide) (by omega)
 have hjq1 : jq ≤ 400 := by rw [← hjq]; exact Int.ediv_le_self _ (by decide)
 have hjqt : Int.tdiv 400 a0_1 = jq := by rw [← hjq]; exact Int.tdiv_eq_ediv_of_nonneg (by decide)
 by_cases c4 : (l2.length : Int) > jq
 ·rw [if_pos c4] at h
  simp only [Option.some.injEq, Prod.mk.injEq] at h
  obtain ⟨rfl, rfl, rfl⟩ := h
  have c4b0 := decide_eq_true c4
  clear c4
  go_enter Tryz.func8, Tryz.ntmps8
  go_wp2_with (first | ((with_reducible refine gate_dst (N := 3) rfl ?_); (try (refine gate_guard (by rfl) ?_; dsimp only)); refine box_event ?hg (N := 3) ?hd (cs := #[.int .i64 a0_0, .int .i64 a0_1, .slice A0_2 l0_2.length c0_2, .slice A0_3 l0_3.length c0_3]) (t := 26) ?hr ?_; (case hd => rfl); (case hg => rfl); (case hr => exact Qg0_); intro gb hggb w3 hbox hb; have n0_ := Aside0.mk (below_step Qa0_ hb); have n1_ := Aside0.mk (hbox); clear HB; have HB := n0_; have BKgb := n1_; clear n0_ n1_; clear hb hbox hggb; have hczgb0 : w3.cell? ⟨gb, 0, none⟩ = some (.int .i64 a0_0) := (blk_cell BKgb.out 0).trans rfl; have hczgb1 : w3.cell? ⟨gb, 1, none⟩ = some (.int .i64 a0_1) := (blk_cell BKgb.out 1).trans rfl; have hczgb2 : w3.cell? ⟨gb, 2, none⟩ = some (.slice A0_2 l0_2.length c0_2) := (blk_cell BKgb.out 2).trans rfl; have hczgb3 : w3.cell? ⟨gb, 3, none⟩ = some (.slice A0_3 l0_3.length c0_3) := (blk_cell BKgb.out 3).trans rfl) | (go_at_call 28; (with_reducible refine (impl_ValidBlockCode.calls k a0_0 a0_1 A0_2 c0_2 l0_2 A0_3 c0_3 l0_3 true _ ?v1 ?v2 ?v3 ?v4 A1_.out).mono ?_); (case v1 => exact Kd.C_below HR0_2.out HB.out); (case v2 => exact HC0_2.out); (case v3 => exact Kd.C_below HR0_3.out HB.out); (case v4 => exact HC0_3.out); rintro e w4 ⟨rfl, hb4⟩; have HI := Aside0.mk (EbI.below ⟨BKgb.out, HB.out⟩ hb4); clear hb4; have hcw0 : w4.cell? ⟨gb, 0, none⟩ = some (.int .i64 a0_0) := (blk_cell HI.out.1 0).trans rfl; have hcw1 : w4.cell? ⟨gb, 1, none⟩ = some (.int .i64 a0_1) := (blk_cell HI.out.1 1).trans rfl) | (go_at_call 29; (with_reducible refine (impl_isLineState.calls a1 true _ A2_.out).mono ?_); rintro e w5 ⟨rfl, ⟨nd2, rfl⟩⟩) | (go_at_call 26; (with_reducible refine (impl_areIn.calls k A2 c2 l2 0 jm true _ ?i1 ?i2 A3_.out).mono ?_); (case i1 => exact Kd.C_below HR2.out (pw_below_drewN HI.out.2 _)); (case i2 => exact HC2.out); rintro e w6 ⟨rfl, ⟨nd3, rfl⟩⟩))
  go_ret3
  exact ⟨Qc0_, (HI.out.drewN _).2⟩
 rw [if_neg c4] at h
 have c4b0 := decide_eq_false c4
 clear c4
 have H' := Aside0.mk h
 clear h
 go_enter Tryz.func8, Tryz.ntmps8
 go_wp2_with (first | ((with_reducible refine gate_dst (N := 3) rfl ?_); (try (refine gate_guard (by rfl) ?_; dsimp only)); refine box_event ?hg (N := 3) ?hd (cs := #[.int .i64 a0_0, .int .i64 a0_1, .slice A0_2 l0_2.length c0_2, .slice A0_3 l0_3.length c0_3]) (t := 26) ?hr ?_; (case hd => rfl); (case hg => rfl); (case hr => exact Qg0_); intro gb hggb w3 hbox hb; have n0_ := Aside0.mk (below_step Qa0_ hb); have n1_ := Aside0.mk (hbox); clear HB; have HB := n0_; have BKgb := n1_; clear n0_ n1_; clear hb hbox hggb; have hczgb0 : w3.cell? ⟨gb, 0, none⟩ = some (.int .i64 a0_0) := (blk_cell BKgb.out 0).trans rfl; have hczgb1 : w3.cell? ⟨gb, 1, none⟩ = some (.int .i64 a0_1) := (blk_cell BKgb.out 1).trans rfl; have hczgb2 : w3.cell? ⟨gb, 2, none⟩ = some (.slice A0_2 l0_2.length c0_2) := (blk_cell BKgb.out 2).trans rfl; have hczgb3 : w3.cell? ⟨gb, 3, none⟩ = some (.slice A0_3 l0_3.length c0_3) := (blk_cell BKgb.out 3).trans rfl) | (go_at_call 28; (with_reducible refine (impl_ValidBlockCode.calls k a0_0 a0_1 A0_2 c0_2 l0_2 A0_3 c0_3 l0_3 true _ ?v1 ?v2 ?v3 ?v4 A1_.out).mono ?_); (case v1 => exact Kd.C_below HR0_2.out HB.out); (case v2 => exact HC0_2.out); (case v3 => exact Kd.C_below HR0_3.out HB.out); (case v4 => exact HC0_3.out); rintro e w4 ⟨rfl, hb4⟩; have HI := Aside0.mk (EbI.below ⟨BKgb.out, HB.out⟩ hb4); clear hb4; have hcw0 : w4.cell? ⟨gb, 0, none⟩ = some (.int .i64 a0_0) := (blk_cell HI.out.1 0).trans rfl; have hcw1 : w4.cell? ⟨gb, 1, none⟩ = some (.int .i64 a0_1) := (blk_cell HI.out.1 1).trans rfl) | (go_at_call 29; (with_reducible refine (impl_isLineState.calls a1 true _ A2_.out).mono ?_); rintro e w5 ⟨rfl, ⟨nd2, rfl⟩⟩) | (go_at_call 26; (with_reducible refine (impl_areIn.calls k A2 c2 l2 0 jm true _ ?i1 ?i2 A3_.out).mono ?_); (case i1 => exact Kd.C_below HR2.out (pw_below_drewN HI.out.2 _)); (case i2 => exact HC2.out); rintro e w6 ⟨rfl, ⟨nd3, rfl⟩⟩))
 have HJ := Aside0.mk (HI.out.drewN (nd2 + nd3))
 clear HI
 go_loopg [9, 10, 43] k (fun kq v9 v10 v43 w' => ∃ (out : ByteArray) (st i : Int), v9 = .string out ∧ v10 = .int .i64 st ∧ v43 = .int .i64 i ∧ Aside0 (impl_EncodeBlocks.l0 kq l0_2 l0_3 l2 out st i = some (r1, r2, r3)) ∧ Aside0 (kq ≤ k) ∧ Aside0 (EbI w w' gb #[.int .i64 a0_0, .int .i64 a0_1, .slice A0_2 l0_2.length c0_2, .slice A0_3 l0_3.length c0_3]))
 case atStart => exact ⟨(⟨#[]⟩ : ByteArray), a1, 0, Qc0_, Qc0_, Qc0_, H', ⟨Nat.le_refl _⟩, HJ⟩
 case round =>
  clear H' HJ hczgb0 hczgb1 hczgb2 hczgb3 hcw0 hcw1 c0b0 c0b1 c064t c0b2 c0b3 c0b4 c0b5 hji_ hjiz hjiu hjiv hjiy hjix hjm hjmw hjq hjqt hjq0 hjq1 c4b0 HB
  obtain ⟨out, st, i, rfl, rfl, rfl, HA, HK1, HI⟩ := hrel
  cases gk with
  | zero => exact absurd HA.out (by simp [impl_EncodeBlocks.l0])
  | succ k1 =>
   have H := HA.out
   clear HA
   simp only [impl_EncodeBlocks.l0] at H
   by_cases d1 : i < (l2.length : Int)
   rotate_left
   ·rw [if_neg d1] at H
    simp only [Option.some.injEq, Prod.mk.injEq] at H
    obtain ⟨rfl, rfl, rfl⟩ := H
    have d1b0 : decide (i < (l2.length : Int)) = false := decide_eq_false d1
    clear d1
    go_wp2
    go_ret3
    exact ⟨Qc0_, HI.out.2⟩
   rw [if_pos d1] at H
   have d1b0 : decide (i < (l2.length : Int)) = true := decide_eq_true d1
   by_cases d2 : 0 ≤ i
   rotate_left
   ·rw [if_neg d2] at H
    exact absurd H (by simp)
   rw [if_pos d2] at H
   obtain ⟨ad1, e1, hx1⟩ := Kd.at_int (Kd.C_below HR2.out HI.out.2) i d2 d1
   cases e1
   have p1 := eq_true d2
   have q1 := eq_true d1
   clear d1 d2
   obtain ⟨x, hx⟩ : ∃ x : Int, x = rd l2 i := ⟨_, rfl⟩
   rw [← hx] at H hx1
   clear hx
   have hcv0 : wr.cell? ⟨gb, 0, none⟩ = some (.int .i64 a0_0) := (blk_cell HI.out.1 0).trans rfl
   have hcv1 : wr.cell? ⟨gb, 1, none⟩ = some (.int .i64 a0_1) := (blk_cell HI.out.1 1).trans rfl
   have hcv2 : wr.cell? ⟨gb, 2, none⟩ = some (.slice A0_2 l0_2.length c0_2) := (blk_cell HI.out.1 2).trans rfl
   have hcv3 : wr.cell? ⟨gb, 3, none⟩ = some (.slice A0_3 l0_3.length c0_3) := (blk_cell HI.out.1 3).trans rfl
   by_cases d3 : 0 ≤ x
   rotate_left
   ·rw [if_neg d3] at H
    exact absurd H (by simp)
   rw [if_pos d3] at H
   by_cases hst : st < 0
   ·simp only [if_pos hst] at H
    by_cases d4 : x < (l0_2.length : Int)
    rotate_left
    ·rw [if_neg d4] at H
     exact absurd H (by simp)
    rw [if_pos d4] at H
    obtain ⟨ad2, e2, hx2⟩ := Kd.at_string (Kd.C_below HR0_2.out HI.out.2) x d3 d4
    cases e2
    have p2 := eq_true d3
    have q2 := eq_true d4
    clear d3 d4
    obtain ⟨y, hy⟩ : ∃ y : ByteArray, y = rdOf ByteArray.empty l0_2 x := ⟨_, rfl⟩
    rw [← hy] at H hx2
    clear hy
    by_cases d5 : out.size ≤ 100000 ∧ y.size ≤ 100000
    rotate_left
    ·rw [if_neg d5] at H
     exact absurd H (by simp)
    rw [if_pos d5] at H
    have hsz : out.size + y.size ≤ 9223372036854775807 := by omega
    have hsz2 : (9223372036854775807 < out.size + y.size) = False := eq_false (by omega)
    clear d5
    obtain ⟨t, A1, H⟩ := Option.bind_eq_some_iff.mp H
    have A4_ := Aside0.mk A1
    clear A1
    have H' := Aside0.mk H
    clear H
    go_wp2_with (first | (go_at_call 30; refine (bw_minus a0_0 a0_1 _ _ st _ hst rfl rfl).mono ?_; rintro e w7 ⟨rfl, hb7⟩; have HI2 := Aside0.mk (EbI.below HI.out hb7); have hy2 := (hb7.cell (World.block_lt_of_cell? wr _ hx2)).trans hx2; clear hb7) | (go_at_call 31; (with_reducible refine (impl_stateBehind.calls st y t _ A4_.out).mono ?_); rintro e w8 ⟨rfl, ⟨nd, rfl⟩⟩))
    go_roundg k1
    case measure => have := HK1.out; omega
    case rel => exact ⟨(out ++ y), t, (wrap64 (i + 1)), Qc0_, Qc0_, Qc0_, H', ⟨Qs0_⟩, ⟨HI2.out.drewN _⟩⟩
   ·simp only [if_neg hst] at H
    by_cases d4 : x < (l0_3.length : Int)
    rotate_left
    ·rw [if_neg d4] at H
     exact absurd H (by simp)
    rw [if_pos d4] at H
    obtain ⟨ad2, e2, hx2⟩ := Kd.at_string (Kd.C_below HR0_3.out HI.out.2) x d3 d4
    cases e2
    have p2 := eq_true d3
    have q2 := eq_true d4
    clear d3 d4
    obtain ⟨y, hy⟩ : ∃ y : ByteArray, y = rdOf ByteArray.empty l0_3 x := ⟨_, rfl⟩
    rw [← hy] at H hx2
    clear hy
    by_cases d5 : out.size ≤ 100000 ∧ y.size ≤ 100000
    rotate_left
    ·rw [if_neg d5] at H
     exact absurd H (by simp)
    rw [if_pos d5] at H
    have hsz : out.size + y.size ≤ 9223372036854775807 := by omega
    have hsz2 : (9223372036854775807 < out.size + y.size) = False := eq_false (by omega)
    clear d5
    obtain ⟨t, A1, H⟩ := Option.bind_eq_some_iff.mp H
    have A4_ := Aside0.mk A1
    clear A1
    have H' := Aside0.mk H
    clear H
    go_wp2_with (first | (go_at_call 30; refine (bw_plus a0_0 a0_1 _ _ st _ hst rfl rfl).mono ?_; rintro e w7 ⟨rfl, hb7⟩; have HI2 := Aside0.mk (EbI.below HI.out hb7); have hy2 := (hb7.cell (World.block_lt_of_cell? wr _ hx2)).trans hx2; clear hb7) | (go_at_call 31; (with_reducible refine (impl_stateBehind.calls st y t _ A4_.out).mono ?_); rintro e w8 ⟨rfl, ⟨nd, rfl⟩⟩))
    go_roundg k1
    case measure => have := HK1.out; omega
    case rel => exact ⟨(out ++ y), t, (wrap64 (i + 1)), Qc0_, Qc0_, Qc0_, H', ⟨Qs0_⟩, ⟨HI2.out.drewN _⟩⟩
def impl_IsBits.f (a0 : ByteArray) : Option (Bool) := if (a0.size : Int) ≤ 400 then ((impl_areBits.f a0).bind fun t201 => (some t201)) else (some false)
set_option maxHeartbeats 8000000 in
set_option maxRecDepth 100000 in
theorem impl_IsBits.calls (a0 : ByteArray) (r : Bool) (w : World) (h : impl_IsBits.f a0 = some r) :
 Calls Tryz.prog 35 #[.string a0] w fun e w' => e = .returned (.bool r) ∧ Below w.heap.size w w' := by
 have HB := Aside0.mk (Below.refl w.heap.size w)
 have H : (if (a0.size : Int) ≤ 400 then ((impl_areBits.f a0).bind fun t201 => (some t201)) else (some false)) = some r := h
 clear h
 by_cases c2 : (a0.size : Int) ≤ 400
 ·rw [if_pos c2] at H
  have c2b0 := decide_eq_true c2
  have c2b1 : decide (a0.size ≤ 400) = true := decide_eq_true (by omega)
  clear c2
  replace H := Option.bind_eq_some_iff.mp H
  obtain ⟨t201, A30, H⟩ := H
  try dsimp only at H
  have A3 := Aside0.mk A30
  clear A30
  obtain rfl := Option.some.inj H
  go_enter Tryz.func35, Tryz.ntmps35
  go_wp2_with (first | (go_at_call 62; (with_reducible refine (impl_areBits.calls a0 t201 _ A3.out).mono ?_); rintro e w4 ⟨rfl, hb⟩; have n0_ := Aside0.mk (below_step Qa0_ hb); clear HB; have HB := n0_; clear n0_; (try clear hb); (try clear hb2); (try clear hk); (try clear hi)))
  go_ret
  exact ⟨Qd0_, Qa0_⟩
 ·rw [if_neg c2] at H
  have c2b0 := decide_eq_false c2
  have c2b1 : decide (a0.size ≤ 400) = false := decide_eq_false (by omega)
  clear c2
  obtain rfl := Option.some.inj H
  go_enter Tryz.func35, Tryz.ntmps35
  go_wp2
  go_ret
  exact ⟨Qd0_, Qa0_⟩
def impl_areSides.f (a0 : Int) (a1 : Int) : Option (Bool) := (impl_within.f a0 1 20).bind fun t202 => (if t202 = true then ((impl_within.f a1 1 20).bind fun t203 => (some t203)) else (some false))
set_option maxHeartbeats 8000000 in
set_option maxRecDepth 100000 in
theorem impl_areSides.calls (a0 : Int) (a1 : Int) (r : Bool) (w : World) (h : impl_areSides.f a0 a1 = some r) :
 Calls Tryz.prog 61 #[.int .i64 a0, .int .i64 a1] w fun e w' => e = .returned (.bool r) ∧ Drawn0 w w' := by
 have H : ((impl_within.f a0 1 20).bind fun t202 => (if t202 = true then ((impl_within.f a1 1 20).bind fun t203 => (some t203)) else (some false))) = some r := h
 clear h
 replace H := Option.bind_eq_some_iff.mp H
 obtain ⟨t202, A30, H⟩ := H
 try dsimp only at H
 have A3 := Aside0.mk A30
 clear A30
 by_cases c4 : t202 = true
 ·subst c4
  rw [if_pos rfl] at H
  have H1 := H
  clear H
  have H := H1
  clear H1
  replace H := Option.bind_eq_some_iff.mp H
  obtain ⟨t203, A50, H⟩ := H
  try dsimp only at H
  have A5 := Aside0.mk A50
  clear A50
  obtain rfl := Option.some.inj H
  go_enter Tryz.func61, Tryz.ntmps61
  go_wp2_with (first | ((with_reducible refine gate_callee (f := 52) rfl ?_); refine goesL_ (some 6) rfl rfl Tryz.func52 Qh0_ rfl #[.int .i64 a0, .int .i64 1, .int .i64 20] rfl Qb0_ ?_; (with_reducible refine (impl_within.calls a0 1 20 true _ A3.out).mono ?_); rintro e w' ⟨rfl, ⟨nd, rfl⟩⟩; refine ⟨_, rfl, ?_⟩) | (go_at_call 52; (with_reducible refine (impl_within.calls a1 1 20 t203 _ A5.out).mono ?_); rintro e w' ⟨rfl, ⟨nd, rfl⟩⟩))
  go_ret
  exact ⟨Qc0_, Qf0_⟩
 ·replace c4 := Bool.eq_false_iff.mpr c4
  subst c4
  rw [if_neg (show ¬ (false = true) by decide)] at H
  have H1 := H
  clear H
  have H := H1
  clear H1
  obtain rfl := Option.some.inj H
  go_enter Tryz.func61, Tryz.ntmps61
  go_wp2_with (first | ((with_reducible refine gate_callee (f := 52) rfl ?_); refine goesL_ (some 6) rfl rfl Tryz.func52 Qh0_ rfl #[.int .i64 a0, .int .i64 1, .int .i64 20] rfl Qb0_ ?_; (with_reducible refine (impl_within.calls a0 1 20 false _ A3.out).mono ?_); rintro e w' ⟨rfl, ⟨nd, rfl⟩⟩; refine ⟨_, rfl, ?_⟩))
  go_ret
  exact ⟨Qc0_, Qf0_⟩
def impl_isBlock.f (a0 : Int) (a1 : Int) (a2 : ByteArray) : Option (Bool) := (impl_areSides.f a0 a1).bind fun t204 => (if t204 = true then ((impl_IsBits.f a2).bind fun t205 => (if t205 = true then (some ((a2.size : Int) == (wrap64 (a0 * a1)))) else (some false))) else (some false))
set_option maxHeartbeats 8000000 in
set_option maxRecDepth 100000 in
theorem impl_isBlock.calls (a0 : Int) (a1 : Int) (a2 : ByteArray) (r : Bool) (w : World) (h : impl_isBlock.f a0 a1 a2 = some r) :
 Calls Tryz.prog 33 #[.int .i64 a0, .int .i64 a1, .string a2] w fun e w' => e = .returned (.bool r) ∧ Below w.heap.size w w' := by
 have HB := Aside0.mk (Below.refl w.heap.size w)
 have H : ((impl_areSides.f a0 a1).bind fun t204 => (if t204 = true then ((impl_IsBits.f a2).bind fun t205 => (if t205 = true then (some ((a2.size : Int) == (wrap64 (a0 * a1)))) else (some false))) else (some false))) = some r := h
 clear h
 replace H := Option.bind_eq_some_iff.mp H
 obtain ⟨t204, A40, H⟩ := H
 try dsimp only at H
 have A4 := Aside0.mk A40
 clear A40
 by_cases c5 : t204 = true
 ·subst c5
  rw [if_pos rfl] at H
  have H1 := H
  clear H
  have H := H1
  clear H1
  replace H := Option.bind_eq_some_iff.mp H
  obtain ⟨t205, A60, H⟩ := H
  try dsimp only at H
  have A6 := Aside0.mk A60
  clear A60
  by_cases c7 : t205 = true
  ·subst c7
   rw [if_pos rfl] at H
   have H1 := H
   clear H
   have H := H1
   clear H1
   obtain rfl := Option.some.inj H
   go_enter Tryz.func33, Tryz.ntmps33
   go_wp2_with (first | ((with_reducible refine gate_callee (f := 61) rfl ?_); refine goesL_ (some 9) rfl rfl Tryz.func61 Qh0_ rfl #[.int .i64 a0, .int .i64 a1] rfl Qb0_ ?_; (with_reducible refine (impl_areSides.calls a0 a1 true _ A4.out).mono ?_); rintro e w' ⟨rfl, ⟨nd, rfl⟩⟩; refine ⟨_, rfl, ?_⟩) | (go_at_call 35; (with_reducible refine (impl_IsBits.calls a2 true _ A6.out).mono ?_); rintro e w8 ⟨rfl, hb⟩; have n0_ := Aside0.mk (below_step Qa0_ hb); clear HB; have HB := n0_; clear n0_; (try clear hb); (try clear hb2); (try clear hk); (try clear hi)))
   go_ret
   exact ⟨Qd0_, Qa0_⟩
  ·replace c7 := Bool.eq_false_iff.mpr c7
   subst c7
   rw [if_neg (show ¬ (false = true) by decide)] at H
   have H1 := H
   clear H
   have H := H1
   clear H1
   obtain rfl := Option.some.inj H
   go_enter Tryz.func33, Tryz.ntmps33
   go_wp2_with (first | ((with_reducible refine gate_callee (f := 61) rfl ?_); refine goesL_ (some 9) rfl rfl Tryz.func61 Qh0_ rfl #[.int .i64 a0, .int .i64 a1] rfl Qb0_ ?_; (with_reducible refine (impl_areSides.calls a0 a1 true _ A4.out).mono ?_); rintro e w' ⟨rfl, ⟨nd, rfl⟩⟩; refine ⟨_, rfl, ?_⟩) | (go_at_call 35; (with_reducible refine (impl_IsBits.calls a2 false _ A6.out).mono ?_); rintro e w9 ⟨rfl, hb⟩; have n0_ := Aside0.mk (below_step Qa0_ hb); clear HB; have HB := n0_; clear n0_; (try clear hb); (try clear hb2); (try clear hk); (try clear hi)))
   go_ret
   exact ⟨Qd0_, Qa0_⟩
 ·replace c5 := Bool.eq_false_iff.mpr c5
  subst c5
  rw [if_neg (show ¬ (false = true) by decide)] at H
  have H1 := H
  clear H
  have H := H1
  clear H1
  obtain rfl := Option.some.inj H
  go_enter Tryz.func33, Tryz.ntmps33
  go_wp2_with (first | ((with_reducible refine gate_callee (f := 61) rfl ?_); refine goesL_ (some 9) rfl rfl Tryz.func61 Qh0_ rfl #[.int .i64 a0, .int .i64 a1] rfl Qb0_ ?_; (with_reducible refine (impl_areSides.calls a0 a1 false _ A4.out).mono ?_); rintro e w' ⟨rfl, ⟨nd, rfl⟩⟩; refine ⟨_, rfl, ?_⟩))
  go_ret
  exact ⟨Qd0_, Qa0_⟩
def impl_behindPlace.f (a0 : Int) (a1 : Int) (a2 : Int) : Option (Int) := if a1 = 0 then (none) else (some (wrap64 ((wrap64 ((Int.tmod a2 a1) * a0)) + (wrap64 (Int.tdiv a2 a1)))))
set_option maxHeartbeats 8000000 in
set_option maxRecDepth 100000 in
theorem impl_behindPlace.calls (a0 : Int) (a1 : Int) (a2 : Int) (r : Int) (w : World) (h : impl_behindPlace.f a0 a1 a2 = some r) :
 Calls Tryz.prog 34 #[.int .i64 a0, .int .i64 a1, .int .i64 a2] w fun e w' => e = .returned (.int .i64 r) ∧ Drawn0 w w' := by
 have H : (if a1 = 0 then (none) else (some (wrap64 ((wrap64 ((Int.tmod a2 a1) * a0)) + (wrap64 (Int.tdiv a2 a1)))))) = some r := h
 clear h
 by_cases c4 : a1 = 0
 ·rw [if_pos c4] at H
  exact absurd H (by simp)
 ·rw [if_neg c4] at H
  have c4b0 := beq_eq_false_iff_ne.mpr c4
  have c4b1 := bne_iff_ne.mpr c4
  obtain rfl := Option.some.inj H
  go_enter Tryz.func34, Tryz.ntmps34
  go_wp2
  repeat (go_quiet (fail); try go_wp2)
  go_ret
  exact ⟨Qc0_, Qf0_⟩
def impl_BlockInterleave.l0 : Nat → Int → Int → ByteArray → List Int → Int → Int → Option (ByteArray × Bool)
 | 0, _, _, _, _, _, _ => none
 | k + 1, x0, x1, x2, x8, x19, x20 => if x20 < x19 then ((impl_behindPlace.f x0 x1 x20).bind fun t210 => (if 0 ≤ x20 then (if x20 < (x2.size : Int) then (if 0 ≤ t210 then (if t210 < (x8.length : Int) then (impl_BlockInterleave.l0 k x0 x1 x2 (x8.set (t210 : Int).toNat (bt x2 x20)) x19 (wrap64 (x20 + 1))) else (none)) else (none)) else (none)) else (none))) else (some (strOfNums x8, true))
def impl_BlockInterleave.f (k : Nat) (a0 : Int) (a1 : Int) (a2 : ByteArray) : Option (ByteArray × Bool) := (impl_isBlock.f a0 a1 a2).bind fun t206 => (if t206 = true then (if 0 ≤ (a2.size : Int) then (if ((a2.size : Int) : Int).toNat ≤ 281474976710656 then (impl_BlockInterleave.l0 k a0 a1 a2 (List.replicate ((a2.size : Int) : Int).toNat 0) (a2.size : Int) 0) else (none)) else (none)) else (some ((⟨#[]⟩ : ByteArray), false)))
def impl_BlockInterleave.T7 : Bool × List (List Nat × List Nat) := (true, [([], []), ([], []), ([], []), ([], []), ([1, 2, 3], [1, 2, 3]), ([], []), ([], []), ([5, 6], [5, 6]), ([0, 4, 0, 1, 2, 3, 4, 5, 6, 7], [0, 4]), ([8, 7, 4, 0, 1, 2, 3, 4, 5, 6, 7], [7, 8])])
def impl_BlockInterleave.B7 : List Nat := [0, 0, 0, 0, 14, 0, 0, 96, 255, 511]
theorem impl_BlockInterleave.tab7 : rtab .any (opsOf Tryz.f10 7) = impl_BlockInterleave.T7 := by kernel_rfl
theorem impl_BlockInterleave.bits7 : waitsOk impl_BlockInterleave.T7.2 impl_BlockInterleave.B7 = true := by kernel_rfl
set_option maxHeartbeats 8000000 in
set_option maxRecDepth 100000 in
theorem impl_BlockInterleave.calls (k : Nat) (a0 : Int) (a1 : Int) (a2 : ByteArray) (r1 : ByteArray) (r2 : Bool) (w : World) (h : impl_BlockInterleave.f k a0 a1 a2 = some (r1, r2)) :
 Calls Tryz.prog 10 #[.int .i64 a0, .int .i64 a1, .string a2] w fun e w' => e = .returned (.tuple #[.string r1, .bool r2]) ∧ Below w.heap.size w w' := by
 have HB := Aside0.mk (Below.refl w.heap.size w)
 have H : ((impl_isBlock.f a0 a1 a2).bind fun t206 => (if t206 = true then (if 0 ≤ (a2.size : Int) then (if ((a2.size : Int) : Int).toNat ≤ 281474976710656 then (impl_BlockInterleave.l0 k a0 a1 a2 (List.replicate ((a2.size : Int) : Int).toNat 0) (a2.size : Int) 0) else (none)) else (none)) else (some ((⟨#[]⟩ : ByteArray), false)))) = some (r1, r2) := h
 clear h
 replace H := Option.bind_eq_some_iff.mp H
 obtain ⟨t206, A40, H⟩ := H
 try dsimp only at H
 have A4 := Aside0.mk A40
 clear A40
 by_cases c5 : t206 = true
 ·subst c5
  rw [if_pos rfl] at H
  have H1 := H
  clear H
  have H := H1
  clear H1
  by_cases c6 : 0 ≤ (a2.size : Int)
  ·rw [if_pos c6] at H
   have c6b0 := eq_true c6
   have c6b1 := decide_eq_true c6
   clear c6
   by_cases c7 : ((a2.size : Int) : Int).toNat ≤ 281474976710656
   ·rw [if_pos c7] at H
    have c7b0 := eq_true c7
    have c7b1 := decide_eq_true c7
    clear c7
    obtain ⟨y207, hy207⟩ : ∃ y_ : List Int, y_ = (List.replicate ((a2.size : Int) : Int).toNat 0) := ⟨_, rfl⟩
    replace H : (impl_BlockInterleave.l0 k a0 a1 a2 y207 (a2.size : Int) 0) = some (r1, r2) := by first | (rw [hy207]; with_reducible exact H) | (have H2_ := (Option.bind_some _ _).symm.trans H; rw [hy207]; with_reducible exact H2_) | (have H2_ := (Option.bind_some _ _).symm.trans H; with_reducible exact H2_) | with_reducible exact H | (rw [hy207]; exact H) | exact H
    have Ny207 := Aside0.mk hy207
    clear hy207
    have H' := Aside0.mk H
    clear H
    go_enter Tryz.func10, Tryz.ntmps10
    go_wp2_with (first | ((with_reducible refine gate_callee (f := 33) rfl ?_); refine goesL_ (some 13) rfl rfl Tryz.func33 Qh0_ rfl #[.int .i64 a0, .int .i64 a1, .string a2] rfl Qb0_ ?_; (with_reducible refine (impl_isBlock.calls a0 a1 a2 true _ A4.out).mono ?_); rintro e w8 ⟨rfl, hb⟩; refine ⟨_, rfl, ?_⟩; have n0_ := Aside0.mk (below_step Qa0_ hb); clear HB; have HB := n0_; clear n0_; (try clear hb); (try clear hb2); (try clear hk); (try clear hi)) | ((with_reducible refine gate_dst (N := 17) rfl ?_); refine Kd.R_make (Kd.int .u8) _ 5 rfl (N := 17) rfl 22 _ _ rfl (a2.size : Int) rfl rfl Tryz.underlying22 (.int .u8 0) 1 info5 rfl (by decide) (by omega) 0 (ok := fun _ => True) (okp := fun _ => True) rfl (fun _ hk => hk) trivial (of_decide_eq_true Qe0_) (Nat.le_trans (Nat.mul_le_mul_right _ (of_decide_eq_true Qe0_ : (a2.size : Int).toNat ≤ 281474976710656)) (by omega)) (Below.refl _ _) (Nat.le_refl _) ?_; intro v208 w9 ho10 hb hg_ hnew_; clear hg_ hnew_; (first | rw [← Ny207.out] at ho10 | (simp only [Int.reduceToNat] at ho10; rw [← Ny207.out] at ho10)); have n0_ := Aside0.mk (Kd.R_lower ho10 (below_size Qa0_)); have n1_ := Aside0.mk (below_step Qa0_ hb); clear HB; have HO209 := n0_; have HB := n1_; clear n0_ n1_; clear hb ho10))
    go_loopg [20] k (fun kq v20 w' => ∃ (x8_1 : List Int) (x20_1 : Int), v20 = .int .i64 x20_1 ∧ Aside0 (impl_BlockInterleave.l0 kq a0 a1 a2 x8_1 (a2.size : Int) x20_1 = some (r1, r2)) ∧ Aside0 (kq ≤ k) ∧ Aside0 (Kd.R (Kd.int .u8) 5 w' w.heap.size (fun _ => True) v208 x8_1) ∧ Aside0 (Below w.heap.size w w'))
    case atStart => exact ⟨(y207), (0), Qc0_, H', ⟨Nat.le_refl _⟩, ⟨Qr_ HO209.out⟩, ⟨Qa0_⟩⟩
    case round =>
     clear H'
     try clear c1
     try clear p2
     try clear c3
     try clear c5
     try clear c6
     try clear c6b0
     try clear c6b1
     try clear c7
     try clear c7b0
     try clear c7b1
     try clear c10
     obtain ⟨x8_1, x20_1, rfl, HA, HK1, HO_8, HB⟩ := hrel
     cases gk with
     | zero => exact absurd HA.out (by simp [impl_BlockInterleave.l0])
     | succ k1 =>
      have H := HA.out
      clear HA
      simp only [impl_BlockInterleave.l0] at H
      by_cases c11 : x20_1 < (a2.size : Int)
      ·rw [if_pos c11] at H
       have c11b0 := decide_eq_true c11
       clear c11
       replace H := Option.bind_eq_some_iff.mp H
       obtain ⟨t210, A120, H⟩ := H
       try dsimp only at H
       have A12 := Aside0.mk A120
       clear A120
       by_cases c13 : 0 ≤ x20_1
       ·rw [if_pos c13] at H
        have c13b0 := decide_eq_true c13
        clear c13
        by_cases c14 : x20_1 < (a2.size : Int)
        ·rw [if_pos c14] at H
         have c14b0 := decide_eq_true c14
         clear c14
         by_cases c16 : 0 ≤ t210
         ·rw [if_pos c16] at H
          have c16b0 := decide_eq_true c16
          clear c16
          by_cases c17 : t210 < (x8_1.length : Int)
          ·rw [if_pos c17] at H
           have c17b0 := decide_eq_true c17
           clear c17
           obtain ⟨y211, hy211⟩ : ∃ y_ : List Int, y_ = (x8_1.set (t210 : Int).toNat (bt a2 x20_1)) := ⟨_, rfl⟩
           replace H : (impl_BlockInterleave.l0 k1 a0 a1 a2 y211 (a2.size : Int) (wrap64 (x20_1 + 1))) = some (r1, r2) := by first | (rw [hy211]; with_reducible exact H) | (have H2_ := (Option.bind_some _ _).symm.trans H; rw [hy211]; with_reducible exact H2_) | (have H2_ := (Option.bind_some _ _).symm.trans H; with_reducible exact H2_) | with_reducible exact H | (rw [hy211]; exact H) | exact H
           have Ny211 := Aside0.mk hy211
           clear hy211
           have H' := Aside0.mk H
           clear H
           try go_wp2
           have n0_ := Aside0.mk (Kd.R_drew HO_8.out)
           have n1_ := Aside0.mk (below_drew1 HB.out)
           clear HO_8
           clear HB
           have HO_8 := n0_
           have HB := n1_
           clear n0_ n1_
           have p15 : 0 ≤ (x20_1 : Int) := of_decide_eq_true Qe0_
           have q15 : x20_1 < (a2.size : Int) := of_decide_eq_true Qe0_
           have hx15 := bt_at a2 x20_1
           replace p15 := eq_true p15
           replace q15 := eq_true q15
           refine start_ (n := 10) (S := fun w' => True) (ds := [9]) #[false, false, false, false, false, false, false, false, false, false] Qh0_ rfl rfl trivial (fun hHeld => ?_); refine with_tabW impl_BlockInterleave.tab7 impl_BlockInterleave.bits7 (fun HT_ HW_ => ?_)
           generalize wr.drew = w19 at HO_8 HB hHeld ⊢
           refine pure_ (i := 0) (N := some 23) (v := ?_) (a' := ?_) #[true, false, false, false, false, false, false, false, false, false] rfl rfl (any_of HT_.out Qh0_) (fun _ _ _ h => h) (Or.inl ⟨by rfl, ?_⟩) ?_ ?_
           rotate_left
           ·intro w'
            go_simp
            with_reducible rfl
           rotate_left
           ·simp only [Act.put, List.setIfInBounds_toArray, List.set_cons_zero, List.set_cons_succ, i64_w, i32_w]
            rfl
           refine pure_ (i := 1) (N := some 24) (v := ?_) (a' := ?_) #[true, true, false, false, false, false, false, false, false, false] rfl rfl (any_of HT_.out Qh0_) (fun _ _ _ h => h) (Or.inl ⟨by rfl, ?_⟩) ?_ ?_
           rotate_left
           ·intro w'
            go_simp
            with_reducible rfl
           rotate_left
           ·simp only [Act.put, List.setIfInBounds_toArray, List.set_cons_zero, List.set_cons_succ, i64_w, i32_w]
            rfl
           refine pure_ (i := 2) (N := some 25) (v := ?_) (a' := ?_) #[true, true, true, false, false, false, false, false, false, false] rfl rfl (any_of HT_.out Qh0_) (fun _ _ _ h => h) (Or.inl ⟨by rfl, ?_⟩) ?_ ?_
           rotate_left
           ·intro w'
            go_simp
            with_reducible rfl
           rotate_left
           ·simp only [Act.put, List.setIfInBounds_toArray, List.set_cons_zero, List.set_cons_succ, i64_w, i32_w]
            rfl
           refine pure_ (i := 3) (N := some 26) (v := ?_) (a' := ?_) #[true, true, true, true, false, false, false, false, false, false] rfl rfl (any_of HT_.out Qh0_) (fun _ _ _ h => h) (Or.inl ⟨by rfl, ?_⟩) ?_ ?_
           rotate_left
           ·intro w'
            go_simp
            with_reducible rfl
           rotate_left
           ·simp only [Act.put, List.setIfInBounds_toArray, List.set_cons_zero, List.set_cons_succ, i64_w, i32_w]
            rfl
           refine pure_ (i := 5) (N := some 28) (v := ?_) (a' := ?_) #[true, true, true, true, false, true, false, false, false, false] rfl rfl (any_of HT_.out Qh0_) (fun _ _ _ h => h) (Or.inl ⟨by rfl, ?_⟩) ?_ ?_
           rotate_left
           ·intro w'
            go_simp
            with_reducible rfl
           rotate_left
           ·simp only [Act.put, List.setIfInBounds_toArray, List.set_cons_zero, List.set_cons_succ, i64_w, i32_w]
            rfl
           refine pure_ (i := 6) (N := some 29) (v := ?_) (a' := ?_) #[true, true, true, true, false, true, true, false, false, false] rfl rfl (any_of HT_.out Qh0_) (fun _ _ _ h => h) (Or.inl ⟨by rfl, ?_⟩) ?_ ?_
           rotate_left
           ·intro w'
            go_simp
            with_reducible rfl
           rotate_left
           ·simp only [Act.put, List.setIfInBounds_toArray, List.set_cons_zero, List.set_cons_succ, i64_w, i32_w]
            rfl
           refine take_ (i := 7) (N := some 30) (v := ?_) (a' := ?_) #[true, true, true, true, false, true, true, true, false, false] rfl rfl (take_ofW HT_.out HW_.out Qh0_) (fun _ _ _ h => h) (Or.inl ⟨by rfl, ?_⟩) hHeld ?_ ?_
           rotate_left
           ·intro w' _
            go_simp
            with_reducible rfl
           rotate_left
           ·simp only [Act.put, List.setIfInBounds_toArray, List.set_cons_zero, List.set_cons_succ, i64_w, i32_w]
            rfl
           refine one_ (i := 4) (N := some 27) #[true, true, true, true, true, true, true, true, false, false] rfl rfl (one_of HT_.out Qh0_) (by decide) (fun K hK => ?_)
           refine goes_ Tryz.func34 Qh0_ rfl #[.int .i64 a0, .int .i64 a1, .int .i64 x20_1] (by rfl) rfl rfl Qb0_ ?_
           with_reducible refine (impl_behindPlace.calls a0 a1 x20_1 t210 _ A12.out).mono ?_
           rintro e w' ⟨rfl, ⟨nd, rfl⟩⟩
           refine ⟨_, rfl, ?_⟩
           have p18 : 0 ≤ (t210 : Int) := of_decide_eq_true Qe0_
           have q18 : (t210 : Int) < ((x8_1.length : Int) : Int) := of_decide_eq_true Qe0_
           obtain ⟨go18, co18, eo18, gb18, gl18, cl18, HG18⟩ := Kd.R_form HO_8.out (by omega)
           (first | cases eo18 | (injection eo18 with ea_ en_ ec_; (first | subst ea_ | (injection ea_ with ea_; subst ea_)); subst ec_; clear en_))
           have GB18 := Aside0.mk gb18
           have GG18 := Aside0.mk HG18
           clear gb18 gl18 HG18
           obtain ⟨hx18_0, hf18_0⟩ := Kd.R_celln 0 HO_8.out (t210 : Int) p18 q18
           replace p18 := eq_true p18
           replace q18 := eq_true q18
           have HP20 := Kd.R_putn HO_8.out (t210 : Int) (bt a2 x20_1)
           rw [← Ny211.out] at HP20
           have HQ20 := Aside0.mk HP20
           clear HP20
           refine hK.out _ _ trivial (fun hHeld => ?_)
           clear hK K
           refine norm_ (a' := ?_) ?_ ?_
           rotate_left
           ·show Act.put _ (some 27) _ = _
            simp only [Act.put, List.setIfInBounds_toArray, List.set_cons_zero, List.set_cons_succ, i64_w, i32_w]
            rfl
           refine pure_ (i := 8) (N := some 31) (v := ?_) (a' := ?_) #[true, true, true, true, true, true, true, true, true, false] rfl rfl (any_of HT_.out Qh0_) (fun _ _ _ h => h) (Or.inl ⟨by rfl, ?_⟩) ?_ ?_
           rotate_left
           ·intro w'
            go_simp
            with_reducible rfl
           rotate_left
           ·simp only [Act.put, List.setIfInBounds_toArray, List.set_cons_zero, List.set_cons_succ, i64_w, i32_w]
            rfl
           refine last_ (i := 9) (N := none) #[true, true, true, true, true, true, true, true, true, true] rfl rfl (one_of HT_.out Qh0_) (by decide) (fun K hK => ?_)
           refine skip_ (w1 := ?_) (by rfl) rfl ?_ ?_
           rotate_left
           ·go_simp
            rfl
           refine hK.out _ _ ?_
           clear hK K
           refine done_ (done_of HT_.out Qh0_) ?_
           try go_wp2
           go_roundg k1
           case measure => have := HK1.out; omega
           case rel => exact ⟨(y211), (wrap64 (x20_1 + 1)), Qc0_, H', ⟨Qs0_⟩, ⟨Qr_ HQ20.out⟩, ⟨Qg_ GB18.out⟩⟩
          ·rw [if_neg c17] at H
           exact absurd H (by simp)
         ·rw [if_neg c16] at H
          exact absurd H (by simp)
        ·rw [if_neg c14] at H
         exact absurd H (by simp)
       ·rw [if_neg c13] at H
        exact absurd H (by simp)
      ·rw [if_neg c11] at H
       have c11b0 := decide_eq_false c11
       clear c11
       simp only [Option.some.injEq, Prod.mk.injEq] at H
       obtain ⟨rfl, rfl⟩ := H
       have hcv21 := own_string (P := Tryz.prog) Tryz.underlying22 Tryz.underlying5 Tryz.underlying9 (Kd.own_of_R HO_8.out)
       go_wp2
       go_ret2
       exact ⟨Qd0_, Qa0_⟩
   ·rw [if_neg c7] at H
    exact absurd H (by simp)
  ·rw [if_neg c6] at H
   exact absurd H (by simp)
 ·replace c5 := Bool.eq_false_iff.mpr c5
  subst c5
  rw [if_neg (show ¬ (false = true) by decide)] at H
  have H1 := H
  clear H
  have H := H1
  clear H1
  simp only [Option.some.injEq, Prod.mk.injEq] at H
  obtain ⟨rfl, rfl⟩ := H
  go_enter Tryz.func10, Tryz.ntmps10
  go_wp2_with (first | ((with_reducible refine gate_callee (f := 33) rfl ?_); refine goesL_ (some 13) rfl rfl Tryz.func33 Qh0_ rfl #[.int .i64 a0, .int .i64 a1, .string a2] rfl Qb0_ ?_; (with_reducible refine (impl_isBlock.calls a0 a1 a2 false _ A4.out).mono ?_); rintro e w22 ⟨rfl, hb⟩; refine ⟨_, rfl, ?_⟩; have n0_ := Aside0.mk (below_step Qa0_ hb); clear HB; have HB := n0_; clear n0_; (try clear hb); (try clear hb2); (try clear hk); (try clear hi)))
  go_ret2
  exact ⟨Qd0_, Qa0_⟩
def impl_BlockDeinterleave.f (k : Nat) (a0 : Int) (a1 : Int) (a2 : ByteArray) : Option (ByteArray × Bool) := (impl_BlockInterleave.f k a1 a0 a2).bind fun bt212 => (some (bt212.1, bt212.2))
set_option maxHeartbeats 8000000 in
set_option maxRecDepth 100000 in
theorem impl_BlockDeinterleave.calls (k : Nat) (a0 : Int) (a1 : Int) (a2 : ByteArray) (r1 : ByteArray) (r2 : Bool) (w : World) (h : impl_BlockDeinterleave.f k a0 a1 a2 = some (r1, r2)) :
 Calls Tryz.prog 11 #[.int .i64 a0, .int .i64 a1, .string a2] w fun e w' => e = .returned (.tuple #[.string r1, .bool r2]) ∧ Below w.heap.size w w' := by
 have HB := Aside0.mk (Below.refl w.heap.size w)
 have H : ((impl_BlockInterleave.f k a1 a0 a2).bind fun bt212 => (some (bt212.1, bt212.2))) = some (r1, r2) := h
 clear h
 replace H := Option.bind_eq_some_iff.mp H
 obtain ⟨⟨t212, t213⟩, A40, H⟩ := H
 try dsimp only at H
 have A4 := Aside0.mk A40
 clear A40
 simp only [Option.some.injEq, Prod.mk.injEq] at H
 obtain ⟨rfl, rfl⟩ := H
 go_enter Tryz.func11, Tryz.ntmps11
 go_wp2_with (first | ((with_reducible refine gate_callee (f := 10) rfl ?_); refine goesL_ (some 11) rfl rfl Tryz.func10 Qh0_ rfl #[.int .i64 a1, .int .i64 a0, .string a2] rfl Qb0_ ?_; (with_reducible refine (impl_BlockInterleave.calls k a1 a0 a2 t212 t213 _ A4.out).mono ?_); rintro e w5 ⟨rfl, hb⟩; refine ⟨_, rfl, ?_⟩; have n0_ := Aside0.mk (below_step Qa0_ hb); clear HB; have HB := n0_; clear n0_; (try clear hb); (try clear hb2); (try clear hk); (try clear hi)))
 go_ret2
 exact ⟨Qd0_, Qa0_⟩
def impl_isVotes.f (a0 : Int) : Option (Bool) := (impl_within.f a0 1 15).bind fun t214 => (if t214 = true then (some ((Int.tmod a0 2) == 1)) else (some false))
set_option maxHeartbeats 8000000 in
set_option maxRecDepth 100000 in
theorem impl_isVotes.calls (a0 : Int) (r : Bool) (w : World) (h : impl_isVotes.f a0 = some r) :
 Calls Tryz.prog 36 #[.int .i64 a0] w fun e w' => e = .returned (.bool r) ∧ Drawn0 w w' := by
 have H : ((impl_within.f a0 1 15).bind fun t214 => (if t214 = true then (some ((Int.tmod a0 2) == 1)) else (some false))) = some r := h
 clear h
 replace H := Option.bind_eq_some_iff.mp H
 obtain ⟨t214, A20, H⟩ := H
 try dsimp only at H
 have A2 := Aside0.mk A20
 clear A20
 by_cases c3 : t214 = true
 ·subst c3
  rw [if_pos rfl] at H
  have H1 := H
  clear H
  have H := H1
  clear H1
  obtain rfl := Option.some.inj H
  go_enter Tryz.func36, Tryz.ntmps36
  go_wp2_with (first | ((with_reducible refine gate_callee (f := 52) rfl ?_); refine goesL_ (some 4) rfl rfl Tryz.func52 Qh0_ rfl #[.int .i64 a0, .int .i64 1, .int .i64 15] rfl Qb0_ ?_; (with_reducible refine (impl_within.calls a0 1 15 true _ A2.out).mono ?_); rintro e w' ⟨rfl, ⟨nd, rfl⟩⟩; refine ⟨_, rfl, ?_⟩))
  go_ret
  exact ⟨Qc0_, Qf0_⟩
 ·replace c3 := Bool.eq_false_iff.mpr c3
  subst c3
  rw [if_neg (show ¬ (false = true) by decide)] at H
  have H1 := H
  clear H
  have H := H1
  clear H1
  obtain rfl := Option.some.inj H
  go_enter Tryz.func36, Tryz.ntmps36
  go_wp2_with (first | ((with_reducible refine gate_callee (f := 52) rfl ?_); refine goesL_ (some 4) rfl rfl Tryz.func52 Qh0_ rfl #[.int .i64 a0, .int .i64 1, .int .i64 15] rfl Qb0_ ?_; (with_reducible refine (impl_within.calls a0 1 15 false _ A2.out).mono ?_); rintro e w' ⟨rfl, ⟨nd, rfl⟩⟩; refine ⟨_, rfl, ?_⟩))
  go_ret
  exact ⟨Qc0_, Qf0_⟩
end Go.Proofs.YtdnjebnmianogaaGreatDoor.QFnTop
