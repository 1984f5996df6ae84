/- Made small by wip/pack.py: lemmas and contracts that the law's row leans on. -/
import Derived.Test.YtdaeioklcilipaaGreatDoorZFnConsole27
import Derived.Test.YtdaeioklcilipaaGreatDoorZFnConsole32
import Derived.Test.YtdaeioklcilipaaGreatDoorZFnConsole33
import Derived.Test.YtdaeioklcilipaaGreatDoorZFnConsole36
namespace Go.Proofs.YtdaeioklcilipaaGreatDoor.QFnConsole
open Go.RowKit Go.Proofs.YtdaeioklcilipaaGreatDoorW.PrintWords Go.Proofs.YtdaeioklcilipaaGreatDoorW.PrintLast Go.Proofs.YtdaeioklcilipaaGreatDoorW.PrintMore
attribute [local go_sem] max2_int min2_int max_two min_two max_three min_three max_four min_four
set_option linter.unusedVariables false
set_option linter.unusedSimpArgs false
def EbI (w w' : World) (gb : Nat) (cs : Array Value) : Prop := w'.heap[gb]? = some (.cells cs 98 (0, 0)) ∧ Below w.heap.size w w'
theorem EbI.below {w w1 w2 : World} {gb : Nat} {cs : Array Value} (h : EbI w w1 gb cs) (hB : Below w1.heap.size w1 w2) : EbI w w2 gb cs := ⟨(hB.block gb (blk_lt h.1)).trans h.1, below_step h.2 hB⟩
theorem EbI.drewN {w w1 : World} {gb : Nat} {cs : Array Value} (h : EbI w w1 gb cs) (n : Nat) : EbI w (w1.drewN n) gb cs := ⟨h.1, pw_below_drewN h.2 n⟩
set_option maxHeartbeats 8000000 in
set_option maxRecDepth 100000 in
theorem bw_minus (a b : Int) (v2 v3 : Value) (st : Int) (w : World) (h : st < 0) (h2 : v2.cells = #[v2]) (h3 : v3.cells = #[v3]) :
 Calls Tryz.prog 98 #[.agg #[.int .i64 a, .int .i64 b, v2, v3], .int .i64 st] w fun e w' => e = .returned (.tuple #[v2, v3]) ∧ Below w.heap.size w w' := by
 have hu66 := Tryz.underlying98
 have HB := Aside0.mk (Below.refl w.heap.size w)
 have c1b0 := decide_eq_true h
 clear h
 go_enter Tryz.func98, Tryz.ntmps98
 go_wp2_with (first | ((with_reducible refine gate_dst (N := 2) rfl ?_); (try (refine gate_guard (by rfl) ?_; dsimp only)); refine box_event ?hg (N := 2) ?hd (cs := #[.int .i64 a, .int .i64 b, v2, v3]) (t := 98) ?hr ?_; (case hd => rfl); (case hg => rfl); (case hr => exact Qj0_); intro gb hggb w_ hbox hb; have n0_ := Aside0.mk (below_step Qa0_ hb); have n1_ := Aside0.mk (hbox); clear HB; have HB := n0_; have BKgb := n1_; clear n0_ n1_; clear hb hbox hggb; have hczgb2 : w_.cell? ⟨gb, 2, none⟩ = some (v2) := (blk_cell BKgb.out 2).trans rfl; have hczgb3 : w_.cell? ⟨gb, 3, none⟩ = some (v3) := (blk_cell BKgb.out 3).trans rfl))
 go_quiet (fail)
 go_wp2
 go_ret2
 exact ⟨Qf0_, Qa0_⟩
set_option maxHeartbeats 8000000 in
set_option maxRecDepth 100000 in
theorem bw_plus (a b : Int) (v2 v3 : Value) (st : Int) (w : World) (h : ¬ st < 0) (h2 : v2.cells = #[v2]) (h3 : v3.cells = #[v3]) :
 Calls Tryz.prog 98 #[.agg #[.int .i64 a, .int .i64 b, v2, v3], .int .i64 st] w fun e w' => e = .returned (.tuple #[v3, v2]) ∧ Below w.heap.size w w' := by
 have hu66 := Tryz.underlying98
 have HB := Aside0.mk (Below.refl w.heap.size w)
 have c1b0 := decide_eq_false h
 clear h
 go_enter Tryz.func98, Tryz.ntmps98
 go_wp2_with (first | ((with_reducible refine gate_dst (N := 2) rfl ?_); (try (refine gate_guard (by rfl) ?_; dsimp only)); refine box_event ?hg (N := 2) ?hd (cs := #[.int .i64 a, .int .i64 b, v2, v3]) (t := 98) ?hr ?_; (case hd => rfl); (case hg => rfl); (case hr => exact Qj0_); intro gb hggb w_ hbox hb; have n0_ := Aside0.mk (below_step Qa0_ hb); have n1_ := Aside0.mk (hbox); clear HB; have HB := n0_; have BKgb := n1_; clear n0_ n1_; clear hb hbox hggb; have hczgb2 : w_.cell? ⟨gb, 2, none⟩ = some (v2) := (blk_cell BKgb.out 2).trans rfl; have hczgb3 : w_.cell? ⟨gb, 3, none⟩ = some (v3) := (blk_cell BKgb.out 3).trans rfl))
 go_quiet (fail)
 go_wp2
 go_ret2
 exact ⟨Qf0_, Qa0_⟩
def impl_EncodeBlocks.l0 : Nat → List ByteArray → List ByteArray → List Int → ByteArray → Int → Int → Option (ByteArray × Int × Bool)
 | 0, _, _, _, _, _, _ => none
 | k + 1, mi, pl, ds, out, st, i => if i < (ds.length : Int) then (if 0 ≤ i then (if 0 ≤ (rd ds i) then (if (rd ds i) < ((if st < 0 then mi else pl).length : Int) then (if out.size ≤ 100000 ∧ (rdOf ByteArray.empty (if st < 0 then mi else pl) (rd ds i)).size ≤ 100000 then ((impl_stateBehind.f st (rdOf ByteArray.empty (if st < 0 then mi else pl) (rd ds i))).bind fun t => (impl_EncodeBlocks.l0 k mi pl ds (out ++ (rdOf ByteArray.empty (if st < 0 then mi else pl) (rd ds i))) t (wrap64 (i + 1)))) else (none)) else (none)) else (none)) else (none)) else (some (out, st, true))
def impl_EncodeBlocks.f (k : Nat) (a0_0 a0_1 : Int) (l0_2 l0_3 : List ByteArray) (a1 : Int) (l2 : List Int) : Option (ByteArray × Int × Bool) := (impl_ValidBlockCode.f k a0_0 a0_1 l0_2 l0_3).bind fun t1 => (if t1 = true then (if 0 ≤ a0_0 ∧ a0_0 ≤ 60 ∧ 1 ≤ a0_1 ∧ a0_1 ≤ 1000 then ((impl_isLineState.f a1).bind fun t2 => (if t2 = true then ((impl_areIn.f k l2 0 (wrap64 ((shl .i64 1 a0_0) - 1))).bind fun t3 => (if t3 = true then (if (l2.length : Int) > 400 / a0_1 then (some ((⟨#[]⟩ : ByteArray), 0, false)) else (impl_EncodeBlocks.l0 k l0_2 l0_3 l2 (⟨#[]⟩ : ByteArray) a1 0)) else (some ((⟨#[]⟩ : ByteArray), 0, false)))) else (some ((⟨#[]⟩ : ByteArray), 0, false)))) else none) else (some ((⟨#[]⟩ : ByteArray), 0, false)))
set_option maxHeartbeats 8000000 in
set_option maxRecDepth 100000 in
theorem impl_EncodeBlocks.calls (k : Nat) (a0_0 : Int) (a0_1 : Int) (A0_2 : Option Addr) (c0_2 : Nat) (l0_2 : List ByteArray) (A0_3 : Option Addr) (c0_3 : Nat) (l0_3 : List ByteArray) (a1 : Int) (A2 : Option Addr) (c2 : Nat) (l2 : List Int) (r1 : ByteArray) (r2 : Int) (r3 : Bool) (w : World) (hr0_2 : Kd.C Kd.string w A0_2 l0_2.length l0_2) (hc0_2 : l0_2.length ≤ c0_2) (hr0_3 : Kd.C Kd.string w A0_3 l0_3.length l0_3) (hc0_3 : l0_3.length ≤ c0_3) (hr2 : Kd.C (Kd.int .i64) w A2 l2.length l2) (hc2 : l2.length ≤ c2) (h : impl_EncodeBlocks.f k a0_0 a0_1 l0_2 l0_3 a1 l2 = some (r1, r2, r3)) :
 Calls Tryz.prog 65 #[.agg #[.int .i64 a0_0, .int .i64 a0_1, .slice A0_2 l0_2.length c0_2, .slice A0_3 l0_3.length c0_3], .int .i64 a1, .slice A2 l2.length c2] w fun e w' => e = .returned (.tuple #[.string r1, .int .i64 r2, .bool r3]) ∧ Below w.heap.size w w' := by
 have hu66 := Tryz.underlying98
 have HR0_2 := Aside0.mk hr0_2
 have HC0_2 := Aside0.mk hc0_2
 have HR0_3 := Aside0.mk hr0_3
 have HC0_3 := Aside0.mk hc0_3
 have HR2 := Aside0.mk hr2
 have HC2 := Aside0.mk hc2
 have HB := Aside0.mk (Below.refl w.heap.size w)
 clear hr0_2 hc0_2 hr0_3 hc0_3 hr2 hc2
 unfold impl_EncodeBlocks.f at h
 obtain ⟨t1, A1, h⟩ := Option.bind_eq_some_iff.mp h
 have A1_ := Aside0.mk A1
 clear A1
 cases t1 with
 | false =>
  replace h : some ((⟨#[]⟩ : ByteArray), (0 : Int), false) = some (r1, r2, r3) := h
  simp only [Option.some.injEq, Prod.mk.injEq] at h
  obtain ⟨rfl, rfl, rfl⟩ := h
  go_enter Tryz.func65, Tryz.ntmps65
  go_wp2_with (first | ((with_reducible refine gate_dst (N := 3) rfl ?_); (try (refine gate_guard (by rfl) ?_; dsimp only)); refine box_event ?hg (N := 3) ?hd (cs := #[.int .i64 a0_0, .int .i64 a0_1, .slice A0_2 l0_2.length c0_2, .slice A0_3 l0_3.length c0_3]) (t := 98) ?hr ?_; (case hd => rfl); (case hg => rfl); (case hr => exact Qj0_); intro gb hggb w3 hbox hb; have n0_ := Aside0.mk (below_step Qa0_ hb); have n1_ := Aside0.mk (hbox); clear HB; have HB := n0_; have BKgb := n1_; clear n0_ n1_; clear hb hbox hggb; have hczgb0 : w3.cell? ⟨gb, 0, none⟩ = some (.int .i64 a0_0) := (blk_cell BKgb.out 0).trans rfl; have hczgb1 : w3.cell? ⟨gb, 1, none⟩ = some (.int .i64 a0_1) := (blk_cell BKgb.out 1).trans rfl; have hczgb2 : w3.cell? ⟨gb, 2, none⟩ = some (.slice A0_2 l0_2.length c0_2) := (blk_cell BKgb.out 2).trans rfl; have hczgb3 : w3.cell? ⟨gb, 3, none⟩ = some (.slice A0_3 l0_3.length c0_3) := (blk_cell BKgb.out 3).trans rfl) | (go_at_call 96; (with_reducible refine (impl_ValidBlockCode.calls k a0_0 a0_1 A0_2 c0_2 l0_2 A0_3 c0_3 l0_3 false _ ?v1 ?v2 ?v3 ?v4 A1_.out).mono ?_); (case v1 => exact Kd.C_below HR0_2.out HB.out); (case v2 => exact HC0_2.out); (case v3 => exact Kd.C_below HR0_3.out HB.out); (case v4 => exact HC0_3.out); rintro e w4 ⟨rfl, hb4⟩; have HI := Aside0.mk (EbI.below ⟨BKgb.out, HB.out⟩ hb4); clear hb4; have hcw0 : w4.cell? ⟨gb, 0, none⟩ = some (.int .i64 a0_0) := (blk_cell HI.out.1 0).trans rfl; have hcw1 : w4.cell? ⟨gb, 1, none⟩ = some (.int .i64 a0_1) := (blk_cell HI.out.1 1).trans rfl))
  go_ret3
  exact ⟨Qf0_, HI.out.2⟩
 | true =>
 rw [if_pos rfl] at h
 by_cases c0 : 0 ≤ a0_0 ∧ a0_0 ≤ 60 ∧ 1 ≤ a0_1 ∧ a0_1 ≤ 1000
 rotate_left
 ·rw [if_neg c0] at h
  cases h
 rw [if_pos c0] at h
 have c0b0 := eq_true c0.1
 have c0b1 : decide (0 ≤ a0_0) = true := decide_eq_true c0.1
 have c064t : (a0_0 ≤ 64) = True := eq_true (by omega)
 have c0b2 : (a0_1 == 0) = false := beq_eq_false_iff_ne.2 (by omega)
 have c0b3 : a0_1 ≠ 0 := by omega
 have c0b4 : 1 ≤ a0_1 := c0.2.2.1
 have c0b5 : a0_1 ≤ 1000 := c0.2.2.2
 obtain ⟨ji, hji⟩ : ∃ j_ : Int, (shl .i64 1 a0_0) = j_ := ⟨_, rfl⟩
 rw [hji] at h
 have hji_ : (IntKind.i64.wrap (1 * 2 ^ min a0_0.toNat 64)) = ji := hji
 have hjiz : (IntKind.i64.wrap (1 * 2 ^ a0_0.toNat)) = ji := shl_small hji (of_eq_true c064t)
 have hjiu : (IntKind.i64.wrap (2 ^ min a0_0.toNat 64)) = ji := by have h_ := hji_; rw [Int.one_mul] at h_; exact h_
 have hjiv : (IntKind.i64.wrap (2 ^ a0_0.toNat)) = ji := by have h_ := hjiz; rw [Int.one_mul] at h_; exact h_
 have hjiy : (wrap64 (1 * 2 ^ min a0_0.toNat 64)) = ji := (i64_w _).symm.trans hji_
 have hjix : (wrap64 (1 * 2 ^ a0_0.toNat)) = ji := (i64_w _).symm.trans hjiz
 clear c0 hji
 obtain ⟨jm, hjm⟩ : ∃ j_ : Int, wrap64 (ji - 1) = j_ := ⟨_, rfl⟩
 rw [hjm] at h
 have hjmw : (IntKind.i64.wrap (ji - 1)) = jm := (i64_w _).trans hjm
 obtain ⟨t2, A2, h⟩ := Option.bind_eq_some_iff.mp h
 have A2_ := Aside0.mk A2
 clear A2
 cases t2 with
 | false =>
  replace h : some ((⟨#[]⟩ : ByteArray), (0 : Int), false) = some (r1, r2, r3) := h
  simp only [Option.some.injEq, Prod.mk.injEq] at h
  obtain ⟨rfl, rfl, rfl⟩ := h
  go_enter Tryz.func65, Tryz.ntmps65
  go_wp2_with (first | ((with_reducible refine gate_dst (N := 3) rfl ?_); (try (refine gate_guard (by rfl) ?_; dsimp only)); refine box_event ?hg (N := 3) ?hd (cs := #[.int .i64 a0_0, .int .i64 a0_1, .slice A0_2 l0_2.length c0_2, .slice A0_3 l0_3.length c0_3]) (t := 98) ?hr ?_; (case hd => rfl); (case hg => rfl); (case hr => exact Qj0_); intro gb hggb w3 hbox hb; have n0_ := Aside0.mk (below_step Qa0_ hb); have n1_ := Aside0.mk (hbox); clear HB; have HB := n0_; have BKgb := n1_; clear n0_ n1_; clear hb hbox hggb; have hczgb0 : w3.cell? ⟨gb, 0, none⟩ = some (.int .i64 a0_0) := (blk_cell BKgb.out 0).trans rfl; have hczgb1 : w3.cell? ⟨gb, 1, none⟩ = some (.int .i64 a0_1) := (blk_cell BKgb.out 1).trans rfl; have hczgb2 : w3.cell? ⟨gb, 2, none⟩ = some (.slice A0_2 l0_2.length c0_2) := (blk_cell BKgb.out 2).trans rfl; have hczgb3 : w3.cell? ⟨gb, 3, none⟩ = some (.slice A0_3 l0_3.length c0_3) := (blk_cell BKgb.out 3).trans rfl) | (go_at_call 96; (with_reducible refine (impl_ValidBlockCode.calls k a0_0 a0_1 A0_2 c0_2 l0_2 A0_3 c0_3 l0_3 true _ ?v1 ?v2 ?v3 ?v4 A1_.out).mono ?_); (case v1 => exact Kd.C_below HR0_2.out HB.out); (case v2 => exact HC0_2.out); (case v3 => exact Kd.C_below HR0_3.out HB.out); (case v4 => exact HC0_3.out); rintro e w4 ⟨rfl, hb4⟩; have HI := Aside0.mk (EbI.below ⟨BKgb.out, HB.out⟩ hb4); clear hb4; have hcw0 : w4.cell? ⟨gb, 0, none⟩ = some (.int .i64 a0_0) := (blk_cell HI.out.1 0).trans rfl; have hcw1 : w4.cell? ⟨gb, 1, none⟩ = some (.int .i64 a0_1) := (blk_cell HI.out.1 1).trans rfl) | (go_at_call 97; (with_reducible refine (impl_isLineState.calls a1 false _ A2_.out).mono ?_); rintro e w5 ⟨rfl, ⟨nd2, rfl⟩⟩))
  go_ret3
  exact ⟨Qf0_, (HI.out.drewN _).2⟩
 | true =>
 rw [if_pos rfl] at h
 obtain ⟨t3, A3, h⟩ := Option.bind_eq_some_iff.mp h
 have A3_ := Aside0.mk A3
 clear A3
 cases t3 with
 | false =>
  replace h : some ((⟨#[]⟩ : ByteArray), (0 : Int), false) = some (r1, r2, r3) := h
  simp only [Option.some.injEq, Prod.mk.injEq] at h
  obtain ⟨rfl, rfl, rfl⟩ := h
  go_enter Tryz.func65, Tryz.ntmps65
  go_wp2_with (first | ((with_reducible refine gate_dst (N := 3) rfl ?_); (try (refine gate_guard (by rfl) ?_; dsimp only)); refine box_event ?hg (N := 3) ?hd (cs := #[.int .i64 a0_0, .int .i64 a0_1, .slice A0_2 l0_2.length c0_2, .slice A0_3 l0_3.length c0_3]) (t := 98) ?hr ?_; (case hd => rfl); (case hg => rfl); (case hr => exact Qj0_); intro gb hggb w3 hbox hb; have n0_ := Aside0.mk (below_step Qa0_ hb); have n1_ := Aside0.mk (hbox); clear HB; have HB := n0_; have BKgb := n1_; clear n0_ n1_; clear hb hbox hggb; have hczgb0 : w3.cell? ⟨gb, 0, none⟩ = some (.int .i64 a0_0) := (blk_cell BKgb.out 0).trans rfl; have hczgb1 : w3.cell? ⟨gb, 1, none⟩ = some (.int .i64 a0_1) := (blk_cell BKgb.out 1).trans rfl; have hczgb2 : w3.cell? ⟨gb, 2, none⟩ = some (.slice A0_2 l0_2.length c0_2) := (blk_cell BKgb.out 2).trans rfl; have hczgb3 : w3.cell? ⟨gb, 3, none⟩ = some (.slice A0_3 l0_3.length c0_3) := (blk_cell BKgb.out 3).trans rfl) | (go_at_call 96; (with_reducible refine (impl_ValidBlockCode.calls k a0_0 a0_1 A0_2 c0_2 l0_2 A0_3 c0_3 l0_3 true _ ?v1 ?v2 ?v3 ?v4 A1_.out).mono ?_); (case v1 => exact Kd.C_below HR0_2.out HB.out); (case v2 => exact HC0_2.out); (case v3 => exact Kd.C_below HR0_3.out HB.out); (case v4 => exact HC0_3.out); rintro e w4 ⟨rfl, hb4⟩; have HI := Aside0.mk (EbI.below ⟨BKgb.out, HB.out⟩ hb4); clear hb4; have hcw0 : w4.cell? ⟨gb, 0, none⟩ = some (.int .i64 a0_0) := (blk_cell HI.out.1 0).trans rfl; have hcw1 : w4.cell? ⟨gb, 1, none⟩ = some (.int .i64 a0_1) := (blk_cell HI.out.1 1).trans rfl) | (go_at_call 97; (with_reducible refine (impl_isLineState.calls a1 true _ A2_.out).mono ?_); rintro e w5 ⟨rfl, ⟨nd2, rfl⟩⟩) | (go_at_call 100; (with_reducible refine (impl_areIn.calls k A2 c2 l2 0 jm false _ ?i1 ?i2 A3_.out).mono ?_); (case i1 => exact Kd.C_below HR2.out (pw_below_drewN HI.out.2 _)); (case i2 => exact HC2.out); rintro e w6 ⟨rfl, ⟨nd3, rfl⟩⟩))
  go_ret3
  exact ⟨Qf0_, (HI.out.drewN _).2⟩
 | true =>
 rw [if_pos rfl] at h
 obtain ⟨jq, hjq⟩ : ∃ j_ : Int, 400 / a0_1 = j_ := ⟨_, rfl⟩
 rw [hjq] at h
 have hjq0 : 0 ≤ jq := by rw [← hjq]; exact Int.ediv_nonneg (by decide) (by omega)
 have hjq1 : jq ≤ 400 := by rw [← hjq]; exact Int.ediv_le_self _ (by decide)
 have hjqt : Int.tdiv 400 a0_1 = jq := by rw [← hjq]; exact Int.tdiv_eq_ediv_of_nonneg (by decide)
 by_cases c4 : (l2.length : Int) > jq
 ·rw [if_pos c4] at h
  simp only [Option.some.injEq, Prod.mk.injEq] at h
  obtain ⟨rfl, rfl, rfl⟩ := h
  have c4b0 := decide_eq_true c4
  clear c4
  go_enter Tryz.func65, Tryz.ntmps65
  go_wp2_with (first | ((with_reducible refine gate_dst (N := 3) rfl ?_); (try (refine gate_guard (by rfl) ?_; dsimp only)); refine box_event ?hg (N := 3) ?hd (cs := #[.int .i64 a0_0, .int .i64 a0_1, .slice A0_2 l0_2.length c0_2, .slice A0_3 l0_3.length c0_3]) (t := 98) ?hr ?_; (case hd => rfl); (case hg => rfl); (case hr => exact Qj0_); intro gb hggb w3 hbox hb; have n0_ := Aside0.mk (below_step Qa0_ hb); have n1_ := Aside0.mk (hbox); clear HB; have HB := n0_; have BKgb := n1_; clear n0_ n1_; clear hb hbox hggb; have hczgb0 : w3.cell? ⟨gb, 0, none⟩ = some (.int .i64 a0_0) := (blk_cell BKgb.out 0).trans rfl; have hczgb1 : w3.cell? ⟨gb, 1, none⟩ = some (.int .i64 a0_1) := (blk_cell BKgb.out 1).trans rfl; have hczgb2 : w3.cell? ⟨gb, 2, none⟩ = some (.slice A0_2 l0_2.length c0_2) := (blk_cell BKgb.out 2).trans rfl; have hczgb3 : w3.cell? ⟨gb, 3, none⟩ = some (.slice A0_3 l0_3.length c0_3) := (blk_cell BKgb.out 3).trans rfl) | (go_at_call 96; (with_reducible refine (impl_ValidBlockCode.calls k a0_0 a0_1 A0_2 c0_2 l0_2 A0_3 c0_3 l0_3 true _ ?v1 ?v2 ?v3 ?v4 A1_.out).mono ?_); (case v1 => exact Kd.C_below HR0_2.out HB.out); (case v2 => exact HC0_2.out); (case v3 => exact Kd.C_below HR0_3.out HB.out); (case v4 => exact HC0_3.out); rintro e w4 ⟨rfl, hb4⟩; have HI := Aside0.mk (EbI.below ⟨BKgb.out, HB.out⟩ hb4); clear hb4; have hcw0 : w4.cell? ⟨gb, 0, none⟩ = some (.int .i64 a0_0) := (blk_cell HI.out.1 0).trans rfl; have hcw1 : w4.cell? ⟨gb, 1, none⟩ = some (.int .i64 a0_1) := (blk_cell HI.out.1 1).trans rfl) | (go_at_call 97; (with_reducible refine (impl_isLineState.calls a1 true _ A2_.out).mono ?_); rintro e w5 ⟨rfl, ⟨nd2, rfl⟩⟩) | (go_at_call 100; (with_reducible refine (impl_areIn.calls k A2 c2 l2 0 jm true _ ?i1 ?i2 A3_.out).mono ?_); (case i1 => exact Kd.C_below HR2.out (pw_below_drewN HI.out.2 _)); (case i2 => exact HC2.out); rintro e w6 ⟨rfl, ⟨nd3, rfl⟩⟩))
  go_ret3
  exact ⟨Qf0_, (HI.out.drewN _).2⟩
 rw [if_neg c4] at h
 have c4b0 := decide_eq_false c4
 clear c4
 have H' := Aside0.mk h
 clear h
 go_enter Tryz.func65, Tryz.ntmps65
 go_wp2_with (first | ((with_reducible refine gate_dst (N := 3) rfl ?_); (try (refine gate_guard (by rfl) ?_; dsimp only)); refine box_event ?hg (N := 3) ?hd (cs := #[.int .i64 a0_0, .int .i64 a0_1, .slice A0_2 l0_2.length c0_2, .slice A0_3 l0_3.length c0_3]) (t := 98) ?hr ?_; (case hd => rfl); (case hg => rfl); (case hr => exact Qj0_); intro gb hggb w3 hbox hb; have n0_ := Aside0.mk (below_step Qa0_ hb); have n1_ := Aside0.mk (hbox); clear HB; have HB := n0_; have BKgb := n1_; clear n0_ n1_; clear hb hbox hggb; have hczgb0 : w3.cell? ⟨gb, 0, none⟩ = some (.int .i64 a0_0) := (blk_cell BKgb.out 0).trans rfl; have hczgb1 : w3.cell? ⟨gb, 1, none⟩ = some (.int .i64 a0_1) := (blk_cell BKgb.out 1).trans rfl; have hczgb2 : w3.cell? ⟨gb, 2, none⟩ = some (.slice A0_2 l0_2.length c0_2) := (blk_cell BKgb.out 2).trans rfl; have hczgb3 : w3.cell? ⟨gb, 3, none⟩ = some (.slice A0_3 l0_3.length c0_3) := (blk_cell BKgb.out 3).trans rfl) | (go_at_call 96; (with_reducible refine (impl_ValidBlockCode.calls k a0_0 a0_1 A0_2 c0_2 l0_2 A0_3 c0_3 l0_3 true _ ?v1 ?v2 ?v3 ?v4 A1_.out).mono ?_); (case v1 => exact Kd.C_below HR0_2.out HB.out); (case v2 => exact HC0_2.out); (case v3 => exact Kd.C_below HR0_3.out HB.out); (case v4 => exact HC0_3.out); rintro e w4 ⟨rfl, hb4⟩; have HI := Aside0.mk (EbI.below ⟨BKgb.out, HB.out⟩ hb4); clear hb4; have hcw0 : w4.cell? ⟨gb, 0, none⟩ = some (.int .i64 a0_0) := (blk_cell HI.out.1 0).trans rfl; have hcw1 : w4.cell? ⟨gb, 1, none⟩ = some (.int .i64 a0_1) := (blk_cell HI.out.1 1).trans rfl) | (go_at_call 97; (with_reducible refine (impl_isLineState.calls a1 true _ A2_.out).mono ?_); rintro e w5 ⟨rfl, ⟨nd2, rfl⟩⟩) | (go_at_call 100; (with_reducible refine (impl_areIn.calls k A2 c2 l2 0 jm true _ ?i1 ?i2 A3_.out).mono ?_); (case i1 => exact Kd.C_below HR2.out (pw_below_drewN HI.out.2 _)); (case i2 => exact HC2.out); rintro e w6 ⟨rfl, ⟨nd3, rfl⟩⟩))
 have HJ := Aside0.mk (HI.out.drewN (nd2 + nd3))
 clear HI
 go_loopg [9, 10, 43] k (fun kq v9 v10 v43 w' => ∃ (out : ByteArray) (st i : Int), v9 = .string out ∧ v10 = .int .i64 st ∧ v43 = .int .i64 i ∧ Aside0 (impl_EncodeBlocks.l0 kq l0_2 l0_3 l2 out st i = some (r1, r2, r3)) ∧ Aside0 (kq ≤ k) ∧ Aside0 (EbI w w' gb #[.int .i64 a0_0, .int .i64 a0_1, .slice A0_2 l0_2.length c0_2, .slice A0_3 l0_3.length c0_3]))
 case atStart => exact ⟨(⟨#[]⟩ : ByteArray), a1, 0, Qf0_, Qf0_, Qf0_, H', ⟨Nat.le_refl _⟩, HJ⟩
 case round =>
  clear H' HJ hczgb0 hczgb1 hczgb2 hczgb3 hcw0 hcw1 c0b0 c0b1 c064t c0b2 c0b3 c0b4 c0b5 hji_ hjiz hjiu hjiv hjiy hjix hjm hjmw hjq hjqt hjq0 hjq1 c4b0 HB
  obtain ⟨out, st, i, rfl, rfl, rfl, HA, HK1, HI⟩ := hrel
  cases gk with
  | zero => exact absurd HA.out (by simp [impl_EncodeBlocks.l0])
  | succ k1 =>
   have H := HA.out
   clear HA
   simp only [impl_EncodeBlocks.l0] at H
   by_cases d1 : i < (l2.length : Int)
   rotate_left
   ·rw [if_neg d1] at H
    simp only [Option.some.injEq, Prod.mk.injEq] at H
    obtain ⟨rfl, rfl, rfl⟩ := H
    have d1b0 : decide (i < (l2.length : Int)) = false := decide_eq_false d1
    clear d1
    go_wp2
    go_ret3
    exact ⟨Qf0_, HI.out.2⟩
   rw [if_pos d1] at H
   have d1b0 : decide (i < (l2.length : Int)) = true := decide_eq_true d1
   by_cases d2 : 0 ≤ i
   rotate_left
   ·rw [if_neg d2] at H
    exact absurd H (by simp)
   rw [if_pos d2] at H
   obtain ⟨ad1, e1, hx1⟩ := Kd.at_int (Kd.C_below HR2.out HI.out.2) i d2 d1
   cases e1
   have p1 := eq_true d2
   have q1 := eq_true d1
   clear d1 d2
   obtain ⟨x, hx⟩ : ∃ x : Int, x = rd l2 i := ⟨_, rfl⟩
   rw [← hx] at H hx1
   clear hx
   have hcv0 : wr.cell? ⟨gb, 0, none⟩ = some (.int .i64 a0_0) := (blk_cell HI.out.1 0).trans rfl
   have hcv1 : wr.cell? ⟨gb, 1, none⟩ = some (.int .i64 a0_1) := (blk_cell HI.out.1 1).trans rfl
   have hcv2 : wr.cell? ⟨gb, 2, none⟩ = some (.slice A0_2 l0_2.length c0_2) := (blk_cell HI.out.1 2).trans rfl
   have hcv3 : wr.cell? ⟨gb, 3, none⟩ = some (.slice A0_3 l0_3.length c0_3) := (blk_cell HI.out.1 3).trans rfl
   by_cases d3 : 0 ≤ x
   rotate_left
   ·rw [if_neg d3] at H
    exact absurd H (by simp)
   rw [if_pos d3] at H
   by_cases hst : st < 0
   ·simp only [if_pos hst] at H
    by_cases d4 : x < (l0_2.length : Int)
    rotate_left
    ·rw [if_neg d4] at H
     exact absurd H (by simp)
    rw [if_pos d4] at H
    obtain ⟨ad2, e2, hx2⟩ := Kd.at_string (Kd.C_below HR0_2.out HI.out.2) x d3 d4
    cases e2
    have p2 := eq_true d3
    have q2 := eq_true d4
    clear d3 d4
    obtain ⟨y, hy⟩ : ∃ y : ByteArray, y = rdOf ByteArray.empty l0_2 x := ⟨_, rfl⟩
    rw [← hy] at H hx2
    clear hy
    by_cases d5 : out.size ≤ 100000 ∧ y.size ≤ 100000
    rotate_left
    ·rw [if_neg d5] at H
     exact absurd H (by simp)
    rw [if_pos d5] at H
    have hsz : out.size + y.size ≤ 9223372036854775807 := by omega
    have hsz2 : (9223372036854775807 < out.size + y.size) = False := eq_false (by omega)
    clear d5
    obtain ⟨t, A1, H⟩ := Option.bind_eq_some_iff.mp H
    have A4_ := Aside0.mk A1
    clear A1
    have H' := Aside0.mk H
    clear H
    go_wp2_with (first | (go_at_call 98; refine (bw_minus a0_0 a0_1 _ _ st _ hst rfl rfl).mono ?_; rintro e w7 ⟨rfl, hb7⟩; have HI2 := Aside0.mk (EbI.below HI.out hb7); have hy2 := (hb7.cell (World.block_lt_of_cell? wr _ hx2)).trans hx2; clear hb7) | (go_at_call 99; (with_reducible refine (impl_stateBehind.calls st y t _ A4_.out).mono ?_); rintro e w8 ⟨rfl, ⟨nd, rfl⟩⟩))
    go_roundg k1
    case measure => have := HK1.out; omega
    case rel => exact ⟨(out ++ y), t, (wrap64 (i + 1)), Qf0_, Qf0_, Qf0_, H', ⟨Qs0_⟩, ⟨HI2.out.drewN _⟩⟩
   ·simp only [if_neg hst] at H
    by_cases d4 : x < (l0_3.length : Int)
    rotate_left
    ·rw [if_neg d4] at H
     exact absurd H (by simp)
    rw [if_pos d4] at H
    obtain ⟨ad2, e2, hx2⟩ := Kd.at_string (Kd.C_below HR0_3.out HI.out.2) x d3 d4
    cases e2
    have p2 := eq_true d3
    have q2 := eq_true d4
    clear d3 d4
    obtain ⟨y, hy⟩ : ∃ y : ByteArray, y = rdOf ByteArray.empty l0_3 x := ⟨_, rfl⟩
    rw [← hy] at H hx2
    clear hy
    by_cases d5 : out.size ≤ 100000 ∧ y.size ≤ 100000
    rotate_left
    ·rw [if_neg d5] at H
     exact absurd H (by simp)
    rw [if_pos d5] at H
    have hsz : out.size + y.size ≤ 9223372036854775807 := by omega
    have hsz2 : (9223372036854775807 < out.size + y.size) = False := eq_false (by omega)
    clear d5
    obtain ⟨t, A1, H⟩ := Option.bind_eq_some_iff.mp H
    have A4_ := Aside0.mk A1
    clear A1
    have H' := Aside0.mk H
    clear H
    go_wp2_with (first | (go_at_call 98; refine (bw_plus a0_0 a0_1 _ _ st _ hst rfl rfl).mono ?_; rintro e w7 ⟨rfl, hb7⟩; have HI2 := Aside0.mk (EbI.below HI.out hb7); have hy2 := (hb7.cell (World.block_lt_of_cell? wr _ hx2)).trans hx2; clear hb7) | (go_at_call 99; (with_reducible refine (impl_stateBehind.calls st y t _ A4_.out).mono ?_); rintro e w8 ⟨rfl, ⟨nd, rfl⟩⟩))
    go_roundg k1
    case measure => have := HK1.out; omega
    case rel => exact ⟨(out ++ y), t, (wrap64 (i + 1)), Qf0_, Qf0_, Qf0_, H', ⟨Qs0_⟩, ⟨HI2.out.drewN _⟩⟩
theorem db_row {w w1 : World} {base : Nat} {v : Value} {xs : List Int} (h : Kd.R (Kd.int .i64) 2 w base (fun _ => True) v xs) (hm : ∀ k, v.ownBlock = some k → w1.heap[k]? = w.heap[k]?) : Kd.R (Kd.int .i64) 2 w1 base (fun _ => True) v xs :=
 Kd.R_of_own (own_move (Kd.own_of_R h) hm) (fun _ _ => trivial)
theorem db_lt {w : World} {base : Nat} {v : Value} {xs : List Int} (h : Kd.R (Kd.int .i64) 2 w base (fun _ => True) v xs) : ∀ k, v.ownBlock = some k → k < w.heap.size := fun k hk => own_lt (Kd.own_of_R h) k hk
theorem db_ne {w : World} {base b : Nat} {v : Value} {xs : List Int} {cells : Array Value} (h : Kd.R (Kd.int .i64) 2 w base (fun _ => True) v xs) (hb : w.heap[b]? = some (.cells cells 98 (0, 0))) : v.ownBlock ≠ some b := fun e => Kd.R_ne h hb (by decide) e.symm
def DbI (w w' : World) (gb : Nat) (cs : Array Value) (vd vw : Value) (da wr : List Int) : Prop :=
 EbI w w' gb cs ∧ Kd.R (Kd.int .i64) 2 w' w.heap.size (fun _ => True) vd da ∧ Kd.R (Kd.int .i64) 2 w' w.heap.size (fun _ => True) vw wr ∧ ∀ k, vd.ownBlock = some k → vw.ownBlock ≠ some k
theorem DbI.below {w w1 w2 : World} {gb : Nat} {cs : Array Value} {vd vw : Value} {da wr : List Int} (h : DbI w w1 gb cs vd vw da wr) (hB : Below w1.heap.size w1 w2) : DbI w w2 gb cs vd vw da wr :=
 ⟨h.1.below hB, db_row h.2.1 (fun k hk => hB.block k (db_lt h.2.1 k hk)), db_row h.2.2.1 (fun k hk => hB.block k (db_lt h.2.2.1 k hk)), h.2.2.2⟩
theorem DbI.drewN {w w1 : World} {gb : Nat} {cs : Array Value} {vd vw : Value} {da wr : List Int} (h : DbI w w1 gb cs vd vw da wr) (n : Nat) : DbI w (w1.drewN n) gb cs vd vw da wr := h.below (pw_below_drewN (Below.refl _ _) n)
theorem DbI.wrong {w w1 w2 : World} {gb : Nat} {cs : Array Value} {vd vw vw2 : Value} {da wr wr2 : List Int} (h : DbI w w1 gb cs vd vw da wr) (ho : Kd.R (Kd.int .i64) 2 w2 w.heap.size (fun _ => True) vw2 wr2) (hb : Below w.heap.size w w2) (hg : w1.grownBy w2 vw.ownBlock) (hat : vw2.ownBlock = vw.ownBlock ∨ ∃ b, vw2.ownBlock = some b ∧ w1.heap.size ≤ b) : DbI w w2 gb cs vd vw2 da wr2 := by
 refine ⟨⟨(hg.block gb (blk_lt h.1.1) (fun e => db_ne h.2.2.1 h.1.1 e.symm)).trans h.1.1, hb⟩, db_row h.2.1 (fun k hk => hg.block k (db_lt h.2.1 k hk) (fun e => h.2.2.2 k hk e.symm)), ho, fun k h1 h2 => ?_⟩
 rcases hat with h3 | ⟨b, h3, h4⟩
 ·exact h.2.2.2 k h1 (h3.symm.trans h2)
 ·rw [h2] at h3
  cases h3
  have := db_lt h.2.1 k h1
  omega
theorem DbI.data {w w1 w2 : World} {gb : Nat} {cs : Array Value} {vd vw vd2 : Value} {da wr da2 : List Int} (h : DbI w w1 gb cs vd vw da wr) (ho : Kd.R (Kd.int .i64) 2 w2 w.heap.size (fun _ => True) vd2 da2) (hb : Below w.heap.size w w2) (hg : w1.grownBy w2 vd.ownBlock) (hat : vd2.ownBlock = vd.ownBlock ∨ ∃ b, vd2.ownBlock = some b ∧ w1.heap.size ≤ b) : DbI w w2 gb cs vd2 vw da2 wr := by
 refine ⟨⟨(hg.block gb (blk_lt h.1.1) (fun e => db_ne h.2.1 h.1.1 e.symm)).trans h.1.1, hb⟩, ho, db_row h.2.2.1 (fun k hk => hg.block k (db_lt h.2.2.1 k hk) (fun e => h.2.2.2 k e.symm hk)), fun k h1 h2 => ?_⟩
 rcases hat with h3 | ⟨b, h3, h4⟩
 ·exact h.2.2.2 k (h3.symm.trans h1) h2
 ·rw [h1] at h3
  cases h3
  have := db_lt h.2.2.1 k h2
  omega
def impl_DecodeBlocks.l0 : Nat → Int → List ByteArray → List ByteArray → ByteArray → Int → List Int → List Int → Option (List Int × List Int × Int × Bool)
 | 0, _, _, _, _, _, _, _ => none
 | k + 1, wd, mi, pl, s, st, da, wr => if (s.size : Int) > 0 then (if wd ≤ (s.size : Int) then (if da.length < 1000 ∧ wr.length < 1000 then ((slices_Index_string_string.f k (if st < 0 then mi else pl) (s.extract 0 (wd : Int).toNat)).bind fun n => (if n < 0 then ((slices_Index_string_string.f k (if st < 0 then pl else mi) (s.extract 0 (wd : Int).toNat)).bind fun n2 => ((impl_stateBehind.f st (s.extract 0 (wd : Int).toNat)).bind fun t => (impl_DecodeBlocks.l0 k wd mi pl (s.extract (wd : Int).toNat s.size) t (da ++ [n2]) (wr ++ [(da.length : Int)])))) else ((impl_stateBehind.f st (s.extract 0 (wd : Int).toNat)).bind fun t => (impl_DecodeBlocks.l0 k wd mi pl (s.extract (wd : Int).toNat s.size) t (da ++ [n]) wr)))) else (none)) else (none)) else (some (da, wr, st, true))
def impl_DecodeBlocks.f (k : Nat) (a0_0 a0_1 : Int) (l0_2 l0_3 : List ByteArray) (a1 : Int) (a2 : ByteArray) : Option (List Int × List Int × Int × Bool) := (impl_ValidBlockCode.f k a0_0 a0_1 l0_2 l0_3).bind fun t1 => (if t1 = true then (if 1 ≤ a0_1 ∧ a0_1 ≤ 1000 then ((impl_isLineState.f a1).bind fun t2 => (if t2 = true then ((impl_IsBits.f a2).bind fun t3 => (if t3 = true then (if (a2.size : Int) % a0_1 = 0 then (impl_DecodeBlocks.l0 k a0_1 l0_2 l0_3 a2 a1 [] []) else (some (([] : List Int), ([] : List Int), (0 : Int), false))) else (some (([] : List Int), ([] : List Int), (0 : Int), false)))) else (some (([] : List Int), ([] : List Int), (0 : Int), false)))) else none) else (some (([] : List Int), ([] : List Int), (0 : Int), false)))
set_option maxHeartbeats 8000000 in
set_option maxRecDepth 100000 in
theorem impl_DecodeBlocks.calls (k : Nat) (a0_0 : Int) (a0_1 : Int) (A0_2 : Option Addr) (c0_2 : Nat) (l0_2 : List ByteArray) (A0_3 : Option Addr) (c0_3 : Nat) (l0_3 : List ByteArray) (a1 : Int) (a2 : ByteArray) (r1 r2 : List Int) (r3 : Int) (r4 : Bool) (w : World) (hr0_2 : Kd.C Kd.string w A0_2 l0_2.length l0_2) (hc0_2 : l0_2.length ≤ c0_2) (hr0_3 : Kd.C Kd.string w A0_3 l0_3.length l0_3) (hc0_3 : l0_3.length ≤ c0_3) (h : impl_DecodeBlocks.f k a0_0 a0_1 l0_2 l0_3 a1 a2 = some (r1, r2, r3, r4)) :
 Calls Tryz.prog 61 #[.agg #[.int .i64 a0_0, .int .i64 a0_1, .slice A0_2 l0_2.length c0_2, .slice A0_3 l0_3.length c0_3], .int .i64 a1, .string a2] w fun e w' => ∃ v0_ v1_ : Value, e = .returned (.tuple #[v0_, v1_, .int .i64 r3, .bool r4]) ∧ Kd.R (Kd.int .i64) 2 w' w.heap.size (fun k_ => some k_ ≠ (v1_ : Value).ownBlock) v0_ r1 ∧ Kd.R (Kd.int .i64) 2 w' w.heap.size (fun k_ => some k_ ≠ (v0_ : Value).ownBlock) v1_ r2 ∧ Below w.heap.size w w' := by
 have hu66 := Tryz.underlying98
 have HR0_2 := Aside0.mk hr0_2
 have HC0_2 := Aside0.mk hc0_2
 have HR0_3 := Aside0.mk hr0_3
 have HC0_3 := Aside0.mk hc0_3
 have HB := Aside0.mk (Below.refl w.heap.size w)
 clear hr0_2 hc0_2 hr0_3 hc0_3
 unfold impl_DecodeBlocks.f at h
 obtain ⟨t1, A1, h⟩ := Option.bind_eq_some_iff.mp h
 have A1_ := Aside0.mk A1
 clear A1
 cases t1 with
 | false =>
  replace h : some (([] : List Int), ([] : List Int), (0 : Int), false) = some (r1, r2, r3, r4) := h
  simp only [Option.some.injEq, Prod.mk.injEq] at h
  obtain ⟨rfl, rfl, rfl, rfl⟩ := h
  go_enter Tryz.func61, Tryz.ntmps61
  go_wp2_with (first | ((with_reducible refine gate_dst (N := 3) rfl ?_); (try (refine gate_guard (by rfl) ?_; dsimp only)); refine box_event ?hg (N := 3) ?hd (cs := #[.int .i64 a0_0, .int .i64 a0_1, .slice A0_2 l0_2.length c0_2, .slice A0_3 l0_3.length c0_3]) (t := 98) ?hr ?_; (case hd => rfl); (case hg => rfl); (case hr => exact Qj0_); intro gb hggb w3 hbox hb; have n0_ := Aside0.mk (below_step Qa0_ hb); have n1_ := Aside0.mk (hbox); clear HB; have HB := n0_; have BKgb := n1_; clear n0_ n1_; clear hb hbox hggb; have hczgb0 : w3.cell? ⟨gb, 0, none⟩ = some (.int .i64 a0_0) := (blk_cell BKgb.out 0).trans rfl; have hczgb1 : w3.cell? ⟨gb, 1, none⟩ = some (.int .i64 a0_1) := (blk_cell BKgb.out 1).trans rfl; have hczgb2 : w3.cell? ⟨gb, 2, none⟩ = some (.slice A0_2 l0_2.length c0_2) := (blk_cell BKgb.out 2).trans rfl; have hczgb3 : w3.cell? ⟨gb, 3, none⟩ = some (.slice A0_3 l0_3.length c0_3) := (blk_cell BKgb.out 3).trans rfl) | (go_at_call 96; (with_reducible refine (impl_ValidBlockCode.calls k a0_0 a0_1 A0_2 c0_2 l0_2 A0_3 c0_3 l0_3 false _ ?v1 ?v2 ?v3 ?v4 A1_.out).mono ?_); (case v1 => exact Kd.C_below HR0_2.out HB.out); (case v2 => exact HC0_2.out); (case v3 => exact Kd.C_below HR0_3.out HB.out); (case v4 => exact HC0_3.out); rintro e w4 ⟨rfl, hb4⟩; have HI := Aside0.mk (EbI.below ⟨BKgb.out, HB.out⟩ hb4); clear hb4; have hcw0 : w4.cell? ⟨gb, 0, none⟩ = some (.int .i64 a0_0) := (blk_cell HI.out.1 0).trans rfl; have hcw1 : w4.cell? ⟨gb, 1, none⟩ = some (.int .i64 a0_1) := (blk_cell HI.out.1 1).trans rfl))
  refine bodyPost_ret (v := .tuple #[.slice none 0 0, .slice none 0 0, .int .i64 0, .bool false]) (by simp [results, Tryz.results61, go_sem]) rfl ?_
  exact ⟨_, _, rfl, Kd.R_nil _ _ _ _ _, Kd.R_nil _ _ _ _ _, HI.out.2⟩
 | true =>
 rw [if_pos rfl] at h
 by_cases c0 : 1 ≤ a0_1 ∧ a0_1 ≤ 1000
 rotate_left
 ·rw [if_neg c0] at h
  cases h
 rw [if_pos c0] at h
 have c0b2 : (a0_1 == 0) = false := beq_eq_false_iff_ne.2 (by omega)
 have c0b3 : a0_1 ≠ 0 := by omega
 have c0b4 : 1 ≤ a0_1 := c0.1
 have c0b5 : a0_1 ≤ 1000 := c0.2
 have c0b6 : decide (0 ≤ a0_1) = true := decide_eq_true (by omega)
 have c0b7 := eq_true (show 0 ≤ a0_1 by omega)
 have CW := Aside0.mk c0
 clear c0
 obtain ⟨t2, A2, h⟩ := Option.bind_eq_some_iff.mp h
 have A2_ := Aside0.mk A2
 clear A2
 cases t2 with
 | false =>
  replace h : some (([] : List Int), ([] : List Int), (0 : Int), false) = some (r1, r2, r3, r4) := h
  simp only [Option.some.injEq, Prod.mk.injEq] at h
  obtain ⟨rfl, rfl, rfl, rfl⟩ := h
  go_enter Tryz.func61, Tryz.ntmps61
  go_wp2_with (first | ((with_reducible refine gate_dst (N := 3) rfl ?_); (try (refine gate_guard (by rfl) ?_; dsimp only)); refine box_event ?hg (N := 3) ?hd (cs := #[.int .i64 a0_0, .int .i64 a0_1, .slice A0_2 l0_2.length c0_2, .slice A0_3 l0_3.length c0_3]) (t := 98) ?hr ?_; (case hd => rfl); (case hg => rfl); (case hr => exact Qj0_); intro gb hggb w3 hbox hb; have n0_ := Aside0.mk (below_step Qa0_ hb); have n1_ := Aside0.mk (hbox); clear HB; have HB := n0_; have BKgb := n1_; clear n0_ n1_; clear hb hbox hggb; have hczgb0 : w3.cell? ⟨gb, 0, none⟩ = some (.int .i64 a0_0) := (blk_cell BKgb.out 0).trans rfl; have hczgb1 : w3.cell? ⟨gb, 1, none⟩ = some (.int .i64 a0_1) := (blk_cell BKgb.out 1).trans rfl; have hczgb2 : w3.cell? ⟨gb, 2, none⟩ = some (.slice A0_2 l0_2.length c0_2) := (blk_cell BKgb.out 2).trans rfl; have hczgb3 : w3.cell? ⟨gb, 3, none⟩ = some (.slice A0_3 l0_3.length c0_3) := (blk_cell BKgb.out 3).trans rfl) | (go_at_call 96; (with_reducible refine (impl_ValidBlockCode.calls k a0_0 a0_1 A0_2 c0_2 l0_2 A0_3 c0_3 l0_3 true _ ?v1 ?v2 ?v3 ?v4 A1_.out).mono ?_); (case v1 => exact Kd.C_below HR0_2.out HB.out); (case v2 => exact HC0_2.out); (case v3 => exact Kd.C_below HR0_3.out HB.out); (case v4 => exact HC0_3.out); rintro e w4 ⟨rfl, hb4⟩; have HI := Aside0.mk (EbI.below ⟨BKgb.out, HB.out⟩ hb4); clear hb4; have hcw0 : w4.cell? ⟨gb, 0, none⟩ = some (.int .i64 a0_0) := (blk_cell HI.out.1 0).trans rfl; have hcw1 : w4.cell? ⟨gb, 1, none⟩ = some (.int .i64 a0_1) := (blk_cell HI.out.1 1).trans rfl) | (go_at_call 97; (with_reducible refine (impl_isLineState.calls a1 false _ A2_.out).mono ?_); rintro e w5 ⟨rfl, ⟨nd2, rfl⟩⟩))
  refine bodyPost_ret (v := .tuple #[.slice none 0 0, .slice none 0 0, .int .i64 0, .bool false]) (by simp [results, Tryz.results61, go_sem]) rfl ?_
  exact ⟨_, _, rfl, Kd.R_nil _ _ _ _ _, Kd.R_nil _ _ _ _ _, (HI.out.drewN _).2⟩
 | true =>
 rw [if_pos rfl] at h
 obtain ⟨t3, A3, h⟩ := Option.bind_eq_some_iff.mp h
 have A3_ := Aside0.mk A3
 clear A3
 cases t3 with
 | false =>
  replace h : some (([] : List Int), ([] : List Int), (0 : Int), false) = some (r1, r2, r3, r4) := h
  simp only [Option.some.injEq, Prod.mk.injEq] at h
  obtain ⟨rfl, rfl, rfl, rfl⟩ := h
  go_enter Tryz.func61, Tryz.ntmps61
  go_wp2_with (first | ((with_reducible refine gate_dst (N := 3) rfl ?_); (try (refine gate_guard (by rfl) ?_; dsimp only)); refine box_event ?hg (N := 3) ?hd (cs := #[.int .i64 a0_0, .int .i64 a0_1, .slice A0_2 l0_2.length c0_2, .slice A0_3 l0_3.length c0_3]) (t := 98) ?hr ?_; (case hd => rfl); (case hg => rfl); (case hr => exact Qj0_); intro gb hggb w3 hbox hb; have n0_ := Aside0.mk (below_step Qa0_ hb); have n1_ := Aside0.mk (hbox); clear HB; have HB := n0_; have BKgb := n1_; clear n0_ n1_; clear hb hbox hggb; have hczgb0 : w3.cell? ⟨gb, 0, none⟩ = some (.int .i64 a0_0) := (blk_cell BKgb.out 0).trans rfl; have hczgb1 : w3.cell? ⟨gb, 1, none⟩ = some (.int .i64 a0_1) := (blk_cell BKgb.out 1).trans rfl; have hczgb2 : w3.cell? ⟨gb, 2, none⟩ = some (.slice A0_2 l0_2.length c0_2) := (blk_cell BKgb.out 2).trans rfl; have hczgb3 : w3.cell? ⟨gb, 3, none⟩ = some (.slice A0_3 l0_3.length c0_3) := (blk_cell BKgb.out 3).trans rfl) | (go_at_call 96; (with_reducible refine (impl_ValidBlockCode.calls k a0_0 a0_1 A0_2 c0_2 l0_2 A0_3 c0_3 l0_3 true _ ?v1 ?v2 ?v3 ?v4 A1_.out).mono ?_); (case v1 => exact Kd.C_below HR0_2.out HB.out); (case v2 => exact HC0_2.out); (case v3 => exact Kd.C_below HR0_3.out HB.out); (case v4 => exact HC0_3.out); rintro e w4 ⟨rfl, hb4⟩; have HI := Aside0.mk (EbI.below ⟨BKgb.out, HB.out⟩ hb4); clear hb4; have hcw0 : w4.cell? ⟨gb, 0, none⟩ = some (.int .i64 a0_0) := (blk_cell HI.out.1 0).trans rfl; have hcw1 : w4.cell? ⟨gb, 1, none⟩ = some (.int .i64 a0_1) := (blk_cell HI.out.1 1).trans rfl) | (go_at_call 97; (with_reducible refine (impl_isLineState.calls a1 true _ A2_.out).mono ?_); rintro e w5 ⟨rfl, ⟨nd2, rfl⟩⟩) | (go_at_call 17; (with_reducible refine (impl_IsBits.calls a2 false _ A3_.out).mono ?_); rintro e w6 ⟨rfl, hb6⟩; have HI2 := Aside0.mk (EbI.below (HI.out.drewN nd2) hb6); clear hb6; have hcx1 : w6.cell? ⟨gb, 1, none⟩ = some (.int .i64 a0_1) := (blk_cell HI2.out.1 1).trans rfl))
  refine bodyPost_ret (v := .tuple #[.slice none 0 0, .slice none 0 0, .int .i64 0, .bool false]) (by simp [results, Tryz.results61, go_sem]) rfl ?_
  exact ⟨_, _, rfl, Kd.R_nil _ _ _ _ _, Kd.R_nil _ _ _ _ _, HI2.out.2⟩
 | true =>
 rw [if_pos rfl] at h
 obtain ⟨jq, hjq⟩ : ∃ j_ : Int, (a2.size : Int) % a0_1 = j_ := ⟨_, rfl⟩
 rw [hjq] at h
 have hjqt : Int.tmod (a2.size : Int) a0_1 = jq := by rw [← hjq]; exact Int.tmod_eq_emod_of_nonneg (by omega)
 by_cases c4 : jq = 0
 rotate_left
 ·rw [if_neg c4] at h
  simp only [Option.some.injEq, Prod.mk.injEq] at h
  obtain ⟨rfl, rfl, rfl, rfl⟩ := h
  have c4b0 : (jq != 0) = true := bne_iff_ne.2 c4
  have c4b1 : (jq == 0) = false := beq_eq_false_iff_ne.2 c4
  clear c4
  go_enter Tryz.func61, Tryz.ntmps61
  go_wp2_with (first | ((with_reducible refine gate_dst (N := 3) rfl ?_); (try (refine gate_guard (by rfl) ?_; dsimp only)); refine box_event ?hg (N := 3) ?hd (cs := #[.int .i64 a0_0, .int .i64 a0_1, .slice A0_2 l0_2.length c0_2, .slice A0_3 l0_3.length c0_3]) (t := 98) ?hr ?_; (case hd => rfl); (case hg => rfl); (case hr => exact Qj0_); intro gb hggb w3 hbox hb; have n0_ := Aside0.mk (below_step Qa0_ hb); have n1_ := Aside0.mk (hbox); clear HB; have HB := n0_; have BKgb := n1_; clear n0_ n1_; clear hb hbox hggb; have hczgb0 : w3.cell? ⟨gb, 0, none⟩ = some (.int .i64 a0_0) := (blk_cell BKgb.out 0).trans rfl; have hczgb1 : w3.cell? ⟨gb, 1, none⟩ = some (.int .i64 a0_1) := (blk_cell BKgb.out 1).trans rfl; have hczgb2 : w3.cell? ⟨gb, 2, none⟩ = some (.slice A0_2 l0_2.length c0_2) := (blk_cell BKgb.out 2).trans rfl; have hczgb3 : w3.cell? ⟨gb, 3, none⟩ = some (.slice A0_3 l0_3.length c0_3) := (blk_cell BKgb.out 3).trans rfl) | (go_at_call 96; (with_reducible refine (impl_ValidBlockCode.calls k a0_0 a0_1 A0_2 c0_2 l0_2 A0_3 c0_3 l0_3 true _ ?v1 ?v2 ?v3 ?v4 A1_.out).mono ?_); (case v1 => exact Kd.C_below HR0_2.out HB.out); (case v2 => exact HC0_2.out); (case v3 => exact Kd.C_below HR0_3.out HB.out); (case v4 => exact HC0_3.out); rintro e w4 ⟨rfl, hb4⟩; have HI := Aside0.mk (EbI.below ⟨BKgb.out, HB.out⟩ hb4); clear hb4; have hcw0 : w4.cell? ⟨gb, 0, none⟩ = some (.int .i64 a0_0) := (blk_cell HI.out.1 0).trans rfl; have hcw1 : w4.cell? ⟨gb, 1, none⟩ = some (.int .i64 a0_1) := (blk_cell HI.out.1 1).trans rfl) | (go_at_call 97; (with_reducible refine (impl_isLineState.calls a1 true _ A2_.out).mono ?_); rintro e w5 ⟨rfl, ⟨nd2, rfl⟩⟩) | (go_at_call 17; (with_reducible refine (impl_IsBits.calls a2 true _ A3_.out).mono ?_); rintro e w6 ⟨rfl, hb6⟩; have HI2 := Aside0.mk (EbI.below (HI.out.drewN nd2) hb6); clear hb6; have hcx1 : w6.cell? ⟨gb, 1, none⟩ = some (.int .i64 a0_1) := (blk_cell HI2.out.1 1).trans rfl))
  refine bodyPost_ret (v := .tuple #[.slice none 0 0, .slice none 0 0, .int .i64 0, .bool false]) (by simp [results, Tryz.results61, go_sem]) rfl ?_
  exact ⟨_, _, rfl, Kd.R_nil _ _ _ _ _, Kd.R_nil _ _ _ _ _, HI2.out.2⟩
 rw [if_pos c4] at h
 have c4b0 : (jq != 0) = false := by rw [c4]; rfl
 have c4b1 : (jq == 0) = true := by rw [c4]; rfl
 clear c4
 have H' := Aside0.mk h
 clear h
 go_enter Tryz.func61, Tryz.ntmps61
 go_wp2_with (first | ((with_reducible refine gate_dst (N := 3) rfl ?_); (try (refine gate_guard (by rfl) ?_; dsimp only)); refine box_event ?hg (N := 3) ?hd (cs := #[.int .i64 a0_0, .int .i64 a0_1, .slice A0_2 l0_2.length c0_2, .slice A0_3 l0_3.length c0_3]) (t := 98) ?hr ?_; (case hd => rfl); (case hg => rfl); (case hr => exact Qj0_); intro gb hggb w3 hbox hb; have n0_ := Aside0.mk (below_step Qa0_ hb); have n1_ := Aside0.mk (hbox); clear HB; have HB := n0_; have BKgb := n1_; clear n0_ n1_; clear hb hbox hggb; have hczgb0 : w3.cell? ⟨gb, 0, none⟩ = some (.int .i64 a0_0) := (blk_cell BKgb.out 0).trans rfl; have hczgb1 : w3.cell? ⟨gb, 1, none⟩ = some (.int .i64 a0_1) := (blk_cell BKgb.out 1).trans rfl; have hczgb2 : w3.cell? ⟨gb, 2, none⟩ = some (.slice A0_2 l0_2.length c0_2) := (blk_cell BKgb.out 2).trans rfl; have hczgb3 : w3.cell? ⟨gb, 3, none⟩ = some (.slice A0_3 l0_3.length c0_3) := (blk_cell BKgb.out 3).trans rfl) | (go_at_call 96; (with_reducible refine (impl_ValidBlockCode.calls k a0_0 a0_1 A0_2 c0_2 l0_2 A0_3 c0_3 l0_3 true _ ?v1 ?v2 ?v3 ?v4 A1_.out).mono ?_); (case v1 => exact Kd.C_below HR0_2.out HB.out); (case v2 => exact HC0_2.out); (case v3 => exact Kd.C_below HR0_3.out HB.out); (case v4 => exact HC0_3.out); rintro e w4 ⟨rfl, hb4⟩; have HI := Aside0.mk (EbI.below ⟨BKgb.out, HB.out⟩ hb4); clear hb4; have hcw0 : w4.cell? ⟨gb, 0, none⟩ = some (.int .i64 a0_0) := (blk_cell HI.out.1 0).trans rfl; have hcw1 : w4.cell? ⟨gb, 1, none⟩ = some (.int .i64 a0_1) := (blk_cell HI.out.1 1).trans rfl) | (go_at_call 97; (with_reducible refine (impl_isLineState.calls a1 true _ A2_.out).mono ?_); rintro e w5 ⟨rfl, ⟨nd2, rfl⟩⟩) | (go_at_call 17; (with_reducible refine (impl_IsBits.calls a2 true _ A3_.out).mono ?_); rintro e w6 ⟨rfl, hb6⟩; have HI2 := Aside0.mk (EbI.below (HI.out.drewN nd2) hb6); clear hb6; have hcx1 : w6.cell? ⟨gb, 1, none⟩ = some (.int .i64 a0_1) := (blk_cell HI2.out.1 1).trans rfl) | ((with_reducible refine gate_dst (N := 38) rfl ?_); refine Kd.R_lit (Kd.int .i64) (w0 := w) w.heap.size 2 ?hg (N := 38) ?hd (xs := ([] : List Int)) (inner := []) (ok := fun _ => True) (okp := fun _ => True) ?hr ?hp (fun _ hk => hk) trivial ?hB ?hS (by simp) ?_; (case hd => rfl); (case hg => rfl); (case hr => exact Qj0_); (case hp => exact (Reps.none _ _)); (case hB => exact HI2.out.2); (case hS => exact HI2.out.2.size); intro v38 w38 ho hb hg_ hnew_; have HI3 := Aside0.mk (show EbI w w38 gb _ from ⟨(hg_.block gb (blk_lt HI2.out.1) (by simp)).trans HI2.out.1, hb⟩); have HD := Aside0.mk ho; clear ho hb hg_ hnew_) | ((with_reducible refine gate_dst (N := 39) rfl ?_); refine Kd.R_lit (Kd.int .i64) (w0 := w) w.heap.size 2 ?hg (N := 39) ?hd (xs := ([] : List Int)) (inner := []) (ok := fun _ => True) (okp := fun _ => True) ?hr ?hp (fun _ hk => hk) trivial ?hB ?hS (by simp) ?_; (case hd => rfl); (case hg => rfl); (case hr => exact Qj0_); (case hp => exact (Reps.none _ _)); (case hB => exact HI3.out.2); (case hS => exact HI3.out.2.size); intro v39 w39 ho hb hg_ hnew_; have HJ := Aside0.mk (show DbI w w39 gb _ v38 v39 [] [] from ⟨⟨(hg_.block gb (blk_lt HI3.out.1) (by simp)).trans HI3.out.1, hb⟩, db_row HD.out (fun k hk => hg_.block k (db_lt HD.out k hk) (by simp)), ho, fun k h1 h2 => by obtain ⟨b, h3, h4⟩ := hnew_; rw [h2] at h3; cases h3; have := db_lt HD.out k h1; omega⟩); clear HD HI3 ho hb hg_ hnew_))
 go_loopg [2, 10, 11, 12] k (fun kq v2 v10 v11 v12 w' => ∃ (s : ByteArray) (st : Int) (da wr : List Int), v2 = .string s ∧ v12 = .int .i64 st ∧ Aside0 (impl_DecodeBlocks.l0 kq a0_1 l0_2 l0_3 s st da wr = some (r1, r2, r3, r4)) ∧ Aside0 (kq ≤ k) ∧ Aside0 (DbI w w' gb #[.int .i64 a0_0, .int .i64 a0_1, .slice A0_2 l0_2.length c0_2, .slice A0_3 l0_3.length c0_3] v10 v11 da wr))
 case atStart => exact ⟨a2, a1, [], [], Qf0_, Qf0_, H', ⟨Nat.le_refl _⟩, HJ⟩
 case round =>
  clear H' HJ hczgb0 hczgb1 hczgb2 hczgb3 hcw0 hcw1 hcx1 c0b2 c0b3 hjq hjqt c4b0 c4b1 HB HI HI2 BKgb A1_ A2_ A3_
  obtain ⟨s, st, da, wr_, rfl, rfl, HA, HK1, HI⟩ := hrel
  cases gk with
  | zero => exact absurd HA.out (by simp [impl_DecodeBlocks.l0])
  | succ k1 =>
   have H := HA.out
   clear HA
   simp only [impl_DecodeBlocks.l0] at H
   by_cases d1 : (s.size : Int) > 0
   rotate_left
   ·rw [if_neg d1] at H
    simp only [Option.some.injEq, Prod.mk.injEq] at H
    obtain ⟨rfl, rfl, rfl, rfl⟩ := H
    have d1b0 : decide (0 < (s.size : Int)) = false := decide_eq_false d1
    have d1b1 : decide (0 < s.size) = false := decide_eq_false (by omega)
    clear d1
    go_wp2
    refine bodyPost_ret (v := .tuple #[u10, u11, .int .i64 st, .bool true]) (by simp [results, Tryz.results61, go_sem]) rfl ?_
    exact ⟨_, _, rfl, Kd.R_of_own (Kd.own_of_R HI.out.2.1) (fun k e => fun e2 => HI.out.2.2.2 k e e2.symm), Kd.R_of_own (Kd.own_of_R HI.out.2.2.1) (fun k e => fun e2 => HI.out.2.2.2 k e2.symm e), HI.out.1.2⟩
   rw [if_pos d1] at H
   have d1b0 : decide (0 < (s.size : Int)) = true := decide_eq_true d1
   have d1b1 : decide (0 < s.size) = true := decide_eq_true (by omega)
   clear d1
   by_cases d2 : a0_1 ≤ (s.size : Int)
   rotate_left
   ·rw [if_neg d2] at H
    exact absurd H (by simp)
   rw [if_pos d2] at H
   have d2b0 : decide (a0_1 ≤ (s.size : Int)) = true := decide_eq_true d2
   have d2b1 := eq_true d2
   clear d2
   by_cases d3 : da.length < 1000 ∧ wr_.length < 1000
   rotate_left
   ·rw [if_neg d3] at H
    exact absurd H (by simp)
   rw [if_pos d3] at H
   have HL := Aside0.mk d3
   clear d3
   obtain ⟨x, hx⟩ : ∃ x : ByteArray, x = s.extract 0 (a0_1 : Int).toNat := ⟨_, rfl⟩
   rw [← hx] at H
   have hcv0 : wr.cell? ⟨gb, 0, none⟩ = some (.int .i64 a0_0) := (blk_cell HI.out.1.1 0).trans rfl
   have hcv1 : wr.cell? ⟨gb, 1, none⟩ = some (.int .i64 a0_1) := (blk_cell HI.out.1.1 1).trans rfl
   have hcv2 : wr.cell? ⟨gb, 2, none⟩ = some (.slice A0_2 l0_2.length c0_2) := (blk_cell HI.out.1.1 2).trans rfl
   have hcv3 : wr.cell? ⟨gb, 3, none⟩ = some (.slice A0_3 l0_3.length c0_3) := (blk_cell HI.out.1.1 3).trans rfl
   have hvd := HI.out.2.1
   obtain ⟨Ad, cd, ed⟩ := Kd.R_slice HI.out.2.1
   subst ed
   have hl10 := (Kd.R_reads' HI.out.2.1).1
   clear hvd
   have HX := Aside0.mk hx
   clear hx
   by_cases hst : st < 0
   ·simp only [if_pos hst] at H
    obtain ⟨n, A1, H⟩ := Option.bind_eq_some_iff.mp H
    have A4_ := Aside0.mk A1
    clear A1
    by_cases d4 : n < 0
    ·rw [if_pos d4] at H
     have d4b0 : decide (n < 0) = true := decide_eq_true d4
     clear d4
     obtain ⟨n2, A1, H⟩ := Option.bind_eq_some_iff.mp H
     have A5_ := Aside0.mk A1
     clear A1
     obtain ⟨t, A1, H⟩ := Option.bind_eq_some_iff.mp H
     have A6_ := Aside0.mk A1
     clear A1
     have H' := Aside0.mk H
     clear H
     go_wp2_with (first | (go_at_call 98; refine (bw_minus a0_0 a0_1 _ _ st _ hst rfl rfl).mono ?_; rintro e w7 ⟨rfl, hb7⟩; have HI2 := Aside0.mk (HI.out.below hb7); clear hb7; (try rw [← HX.out])) | (go_at_call 40; (with_reducible refine (slices_Index_string_string.calls k1 A0_2 c0_2 l0_2 x n _ ?s1 ?s2 A4_.out).mono ?_); (case s1 => exact Kd.C_below HR0_2.out HI2.out.1.2); (case s2 => exact HC0_2.out); rintro e w8 ⟨rfl, ⟨nd, rfl⟩⟩; have HI3 := Aside0.mk (HI2.out.drewN nd); clear HI2) | (go_at_call 40; (with_reducible refine (slices_Index_string_string.calls k1 A0_3 c0_3 l0_3 x n2 _ ?s1 ?s2 A5_.out).mono ?_); (case s1 => exact Kd.C_below HR0_3.out HI4.out.1.2); (case s2 => exact HC0_3.out); rintro e w9 ⟨rfl, ⟨nd, rfl⟩⟩; have HI5 := Aside0.mk (HI4.out.drewN nd); clear HI4) | ((with_reducible refine gate_builtin (b := .append) (xs := #[.tmp 63, .tmp 66]) rfl ?_); at_builtin; refine Kd.R_append (Kd.int .i64) (w0 := w) w.heap.size rfl (.tmp 63) (.tmp 66) 61 2 (.int .i64 0) 8 rfl Tryz.underlying61 info2 rfl (by decide) (by omega) u11 wr_ (da.length : Int) [.int .i64 (da.length : Int)] (fun _ => True) (fun _ => False) rfl rfl ?aP (fun _ hk => hk.elim) (fun _ _ => trivial) ?aO ?aB ?aS ?aL ?_; (case aP => exact rfl); (case aB => exact HI3.out.1.2); (case aO => exact HI3.out.2.2.1); (case aS => exact HI3.out.1.2.size); (case aL => have := HL.out; omega); intro v67 w67 ho hb hg_ hat_; have HI4 := Aside0.mk (HI3.out.wrong ho hb hg_ hat_); clear ho hb hg_ hat_ HI3) | ((with_reducible refine gate_builtin (b := .append) (xs := #[.tmp 71, .tmp 73]) rfl ?_); at_builtin; refine Kd.R_append (Kd.int .i64) (w0 := w) w.heap.size rfl (.tmp 71) (.tmp 73) 61 2 (.int .i64 0) 8 rfl Tryz.underlying61 info2 rfl (by decide) (by omega) (.slice Ad da.length cd) da n2 [.int .i64 n2] (fun _ => True) (fun _ => False) rfl rfl ?aP (fun _ hk => hk.elim) (fun _ _ => trivial) ?aO ?aB ?aS ?aL ?_; (case aP => exact rfl); (case aB => exact HI5.out.1.2); (case aO => exact HI5.out.2.1); (case aS => exact HI5.out.1.2.size); (case aL => have := HL.out; omega); intro v74 w74 ho hb hg_ hat_; have HI6 := Aside0.mk (HI5.out.data ho hb hg_ hat_); clear ho hb hg_ hat_ HI5) | (go_at_call 99; (with_reducible refine (impl_stateBehind.calls st x t _ A6_.out).mono ?_); rintro e w10 ⟨rfl, ⟨nd, rfl⟩⟩))
     go_roundg k1
     case measure => have := HK1.out; omega
     case rel => exact ⟨_, t, (da ++ [n2]), (wr_ ++ [(da.length : Int)]), Qf0_, Qf0_, H', ⟨Qs0_⟩, ⟨HI6.out.drewN _⟩⟩
    ·rw [if_neg d4] at H
     have d4b0 : decide (n < 0) = false := decide_eq_false d4
     clear d4
     obtain ⟨t, A1, H⟩ := Option.bind_eq_some_iff.mp H
     have A6_ := Aside0.mk A1
     clear A1
     have H' := Aside0.mk H
     clear H
     go_wp2_with (first | (go_at_call 98; refine (bw_minus a0_0 a0_1 _ _ st _ hst rfl rfl).mono ?_; rintro e w7 ⟨rfl, hb7⟩; have HI2 := Aside0.mk (HI.out.below hb7); clear hb7; (try rw [← HX.out])) | (go_at_call 40; (with_reducible refine (slices_Index_string_string.calls k1 A0_2 c0_2 l0_2 x n _ ?s1 ?s2 A4_.out).mono ?_); (case s1 => exact Kd.C_below HR0_2.out HI2.out.1.2); (case s2 => exact HC0_2.out); rintro e w8 ⟨rfl, ⟨nd, rfl⟩⟩; have HI3 := Aside0.mk (HI2.out.drewN nd); clear HI2) | ((with_reducible refine gate_builtin (b := .append) (xs := #[.tmp 71, .tmp 73]) rfl ?_); at_builtin; refine Kd.R_append (Kd.int .i64) (w0 := w) w.heap.size rfl (.tmp 71) (.tmp 73) 61 2 (.int .i64 0) 8 rfl Tryz.underlying61 info2 rfl (by decide) (by omega) (.slice Ad da.length cd) da n [.int .i64 n] (fun _ => True) (fun _ => False) rfl rfl ?aP (fun _ hk => hk.elim) (fun _ _ => trivial) ?aO ?aB ?aS ?aL ?_; (case aP => exact rfl); (case aB => exact HI3.out.1.2); (case aO => exact HI3.out.2.1); (case aS => exact HI3.out.1.2.size); (case aL => have := HL.out; omega); intro v74 w74 ho hb hg_ hat_; have HI6 := Aside0.mk (HI3.out.data ho hb hg_ hat_); clear ho hb hg_ hat_ HI3) | (go_at_call 99; (with_reducible refine (impl_stateBehind.calls st x t _ A6_.out).mono ?_); rintro e w10 ⟨rfl, ⟨nd, rfl⟩⟩))
     go_roundg k1
     case measure => have := HK1.out; omega
     case rel => exact ⟨_, t, (da ++ [n]), wr_, Qf0_, Qf0_, H', ⟨Qs0_⟩, ⟨HI6.out.drewN _⟩⟩
   ·simp only [if_neg hst] at H
    obtain ⟨n, A1, H⟩ := Option.bind_eq_some_iff.mp H
    have A4_ := Aside0.mk A1
    clear A1
    by_cases d4 : n < 0
    ·rw [if_pos d4] at H
     have d4b0 : decide (n < 0) = true := decide_eq_true d4
     clear d4
     obtain ⟨n2, A1, H⟩ := Option.bind_eq_some_iff.mp H
     have A5_ := Aside0.mk A1
     clear A1
     obtain ⟨t, A1, H⟩ := Option.bind_eq_some_iff.mp H
     have A6_ := Aside0.mk A1
     clear A1
     have H' := Aside0.mk H
     clear H
     go_wp2_with (first | (go_at_call 98; refine (bw_plus a0_0 a0_1 _ _ st _ hst rfl rfl).mono ?_; rintro e w7 ⟨rfl, hb7⟩; have HI2 := Aside0.mk (HI.out.below hb7); clear hb7; (try rw [← HX.out])) | (go_at_call 40; (with_reducible refine (slices_Index_string_string.calls k1 A0_3 c0_3 l0_3 x n _ ?s1 ?s2 A4_.out).mono ?_); (case s1 => exact Kd.C_below HR0_3.out HI2.out.1.2); (case s2 => exact HC0_3.out); rintro e w8 ⟨rfl, ⟨nd, rfl⟩⟩; have HI3 := Aside0.mk (HI2.out.drewN nd); clear HI2) | (go_at_call 40; (with_reducible refine (slices_Index_string_string.calls k1 A0_2 c0_2 l0_2 x n2 _ ?s1 ?s2 A5_.out).mono ?_); (case s1 => exact Kd.C_below HR0_2.out HI4.out.1.2); (case s2 => exact HC0_2.out); rintro e w9 ⟨rfl, ⟨nd, rfl⟩⟩; have HI5 := Aside0.mk (HI4.out.drewN nd); clear HI4) | ((with_reducible refine gate_builtin (b := .append) (xs := #[.tmp 63, .tmp 66]) rfl ?_); at_builtin; refine Kd.R_append (Kd.int .i64) (w0 := w) w.heap.size rfl (.tmp 63) (.tmp 66) 61 2 (.int .i64 0) 8 rfl Tryz.underlying61 info2 rfl (by decide) (by omega) u11 wr_ (da.length : Int) [.int .i64 (da.length : Int)] (fun _ => True) (fun _ => False) rfl rfl ?aP (fun _ hk => hk.elim) (fun _ _ => trivial) ?aO ?aB ?aS ?aL ?_; (case aP => exact rfl); (case aB => exact HI3.out.1.2); (case aO => exact HI3.out.2.2.1); (case aS => exact HI3.out.1.2.size); (case aL => have := HL.out; omega); intro v67 w67 ho hb hg_ hat_; have HI4 := Aside0.mk (HI3.out.wrong ho hb hg_ hat_); clear ho hb hg_ hat_ HI3) | ((with_reducible refine gate_builtin (b := .append) (xs := #[.tmp 71, .tmp 73]) rfl ?_); at_builtin; refine Kd.R_append (Kd.int .i64) (w0 := w) w.heap.size rfl (.tmp 71) (.tmp 73) 61 2 (.int .i64 0) 8 rfl Tryz.underlying61 info2 rfl (by decide) (by omega) (.slice Ad da.length cd) da n2 [.int .i64 n2] (fun _ => True) (fun _ => False) rfl rfl ?aP (fun _ hk => hk.elim) (fun _ _ => trivial) ?aO ?aB ?aS ?aL ?_; (case aP => exact rfl); (case aB => exact HI5.out.1.2); (case aO => exact HI5.out.2.1); (case aS => exact HI5.out.1.2.size); (case aL => have := HL.out; omega); intro v74 w74 ho hb hg_ hat_; have HI6 := Aside0.mk (HI5.out.data ho hb hg_ hat_); clear ho hb hg_ hat_ HI5) | (go_at_call 99; (with_reducible refine (impl_stateBehind.calls st x t _ A6_.out).mono ?_); rintro e w10 ⟨rfl, ⟨nd, rfl⟩⟩))
     go_roundg k1
     case measure => have := HK1.out; omega
     case rel => exact ⟨_, t, (da ++ [n2]), (wr_ ++ [(da.length : Int)]), Qf0_, Qf0_, H', ⟨Qs0_⟩, ⟨HI6.out.drewN _⟩⟩
    ·rw [if_neg d4] at H
     have d4b0 : decide (n < 0) = false := decide_eq_false d4
     clear d4
     obtain ⟨t, A1, H⟩ := Option.bind_eq_some_iff.mp H
     have A6_ := Aside0.mk A1
     clear A1
     have H' := Aside0.mk H
     clear H
     go_wp2_with (first | (go_at_call 98; refine (bw_plus a0_0 a0_1 _ _ st _ hst rfl rfl).mono ?_; rintro e w7 ⟨rfl, hb7⟩; have HI2 := Aside0.mk (HI.out.below hb7); clear hb7; (try rw [← HX.out])) | (go_at_call 40; (with_reducible refine (slices_Index_string_string.calls k1 A0_3 c0_3 l0_3 x n _ ?s1 ?s2 A4_.out).mono ?_); (case s1 => exact Kd.C_below HR0_3.out HI2.out.1.2); (case s2 => exact HC0_3.out); rintro e w8 ⟨rfl, ⟨nd, rfl⟩⟩; have HI3 := Aside0.mk (HI2.out.drewN nd); clear HI2) | ((with_reducible refine gate_builtin (b := .append) (xs := #[.tmp 71, .tmp 73]) rfl ?_); at_builtin; refine Kd.R_append (Kd.int .i64) (w0 := w) w.heap.size rfl (.tmp 71) (.tmp 73) 61 2 (.int .i64 0) 8 rfl Tryz.underlying61 info2 rfl (by decide) (by omega) (.slice Ad da.length cd) da n [.int .i64 n] (fun _ => True) (fun _ => False) rfl rfl ?aP (fun _ hk => hk.elim) (fun _ _ => trivial) ?aO ?aB ?aS ?aL ?_; (case aP => exact rfl); (case aB => exact HI3.out.1.2); (case aO => exact HI3.out.2.1); (case aS => exact HI3.out.1.2.size); (case aL => have := HL.out; omega); intro v74 w74 ho hb hg_ hat_; have HI6 := Aside0.mk (HI3.out.data ho hb hg_ hat_); clear ho hb hg_ hat_ HI3) | (go_at_call 99; (with_reducible refine (impl_stateBehind.calls st x t _ A6_.out).mono ?_); rintro e w10 ⟨rfl, ⟨nd, rfl⟩⟩))
     go_roundg k1
     case measure => have := HK1.out; omega
     case rel => exact ⟨_, t, (da ++ [n]), wr_, Qf0_, Qf0_, H', ⟨Qs0_⟩, ⟨HI6.out.drewN _⟩⟩
def joinT (xs : List ByteArray) (sep : ByteArray) : ByteArray := ⟨(Lib.join (xs.map (·.data.toList)) sep.data.toList).toArray⟩
def strings_Join.f (l0 : List ByteArray) (a1 : ByteArray) : Option (ByteArray) := if l0.length ≤ 140737488355328 ∧ (joinT l0 a1).size ≤ 140737488355328 then some (joinT l0 a1) else none
theorem strings_Join.calls (A0 : Option Addr) (c0 : Nat) (l0 : List ByteArray) (a1 : ByteArray) (r : ByteArray) (w : World) (hr0 : Kd.C Kd.string w A0 l0.length l0) (hc0 : l0.length ≤ c0) (h : strings_Join.f l0 a1 = some r) :
 Calls Tryz.prog 133 #[.slice A0 l0.length c0, .string a1] w fun e w' => e = .returned (.string r) ∧ Below w.heap.size w w' := by
 unfold strings_Join.f at h
 by_cases hl : l0.length ≤ 140737488355328 ∧ (joinT l0 a1).size ≤ 140737488355328
 ·rw [if_pos hl] at h
  obtain rfl := Option.some.inj h
  by_cases h0 : l0.length = 0
  ·have hnil : l0 = [] := List.length_eq_zero_iff.1 h0
   subst hnil
   refine (Tryz.strings_Join_none A0 c0 a1 w).mono fun e w' ⟨he, hw⟩ => ?_
   subst hw
   exact ⟨he, Below.refl _ _⟩
  ·obtain ⟨⟨bk, o, sp⟩, hA, hx⟩ := Kd.at_string hr0 0 (by decide) (by omega)
   subst hA
   have hx0 : w.cell? ⟨bk, o, sp⟩ = some (.string (rdOf ByteArray.empty l0 0)) := by simpa [Addr.add] using hx
   cases sp with
   | some s =>
    exfalso
    simp only [World.cell?] at hx0
    split at hx0
    ·exact absurd hx0 (by simp)
    ·exact absurd hx0 (by simp)
   | none =>
    have hcell : ∀ (j : Nat) x, l0[j]? = some x → w.cell? ⟨bk, o + j, none⟩ = some (.string x) := by
     intro j x hj
     obtain ⟨hjl, rfl⟩ := List.getElem?_eq_some_iff.1 hj
     obtain ⟨ad2, hA2, hx2⟩ := Kd.at_string hr0 (j : Int) (by omega) (by omega)
     injection hA2 with hA2
     subst hA2
     have e : rdOf ByteArray.empty l0 (j : Int) = l0[j] := by
      unfold rdOf
      rw [Int.toNat_natCast, List.getD_eq_getElem?_getD, List.getElem?_eq_getElem hjl]; rfl
     rw [e, Int.toNat_natCast] at hx2
     by_cases hj0 : j = 0
     ·subst hj0
      simpa [Addr.add] using hx2
     ·simpa [Addr.add, hj0] using hx2
    have hb : bk < w.heap.size := World.block_lt_of_cell? w _ hx0
    exact Tryz.strings_Join bk o c0 l0 a1 w hcell hb hl.1 hc0 (by have := hl.2; unfold joinT at this; exact this)
 ·rw [if_neg hl] at h
  exact absurd h (by simp)
def impl_listText.l0 : Nat → List ByteArray → List Int → Int → Int → Option (ByteArray)
 | 0, _, _, _, _ => none
 | k + 1, x3, x10, x11, x12 => if x12 < x11 then (if 0 ≤ x12 then (if x12 < (x10.length : Int) then ((impl_Decimal.f (rd x10 x12)).bind fun t365 => (if x3.length < 8796093022208 then (impl_listText.l0 k (x3 ++ [t365]) x10 x11 (wrap64 (x12 + 1))) else (none))) else (none)) else (none)) else ((strings_Join.f x3 (⟨#[44]⟩ : ByteArray)).bind fun t369 => (some t369))
def impl_listText.f (k : Nat) (l0 : List Int) : Option (ByteArray) := if (l0.length : Int) = 0 then (some (⟨#[110, 111, 110, 101]⟩ : ByteArray)) else (impl_listText.l0 k (([] : List ByteArray)) l0 (l0.length : Int) 0)
set_option maxHeartbeats 8000000 in
set_option maxRecDepth 100000 in
theorem impl_listText.calls (k : Nat) (A0 : Option Addr) (c0 : Nat) (l0 : List Int) (r : ByteArray) (w : World) (hr0 : Kd.C (Kd.int .i64) w A0 l0.length l0) (hc0 : l0.length ≤ c0) (hT : LibW w) (h : impl_listText.f k l0 = some r) :
 Calls Tryz.prog 101 #[.slice A0 l0.length c0] w fun e w' => e = .returned (.string r) ∧ Below w.heap.size w w' := by
 have HT := Aside0.mk hT
 clear hT
 have HR0 := Aside0.mk hr0
 have HC0 := Aside0.mk hc0
 clear hr0 hc0
 have HB := Aside0.mk (Below.refl w.heap.size w)
 have H : (if (l0.length : Int) = 0 then (some (⟨#[110, 111, 110, 101]⟩ : ByteArray)) else (impl_listText.l0 k (([] : List ByteArray)) l0 (l0.length : Int) 0)) = some r := h
 clear h
 by_cases c2 : (l0.length : Int) = 0
 ·rw [if_pos c2] at H
  have c2b0 := beq_iff_eq.mpr c2
  have c2b1 := bne_eq_false_iff_eq.mpr c2
  clear c2
  obtain rfl := Option.some.inj H
  go_enter Tryz.func101, Tryz.ntmps101
  go_wp2
  go_ret
  exact ⟨Qh0_, Qa0_⟩
 ·rw [if_neg c2] at H
  have c2b0 := beq_eq_false_iff_ne.mpr c2
  have c2b1 := bne_iff_ne.mpr c2
  have c2b2 : ¬ (l0 = []) := fun h_ => c2 (by rw [h_]; rfl)
  obtain ⟨y361, hy361⟩ : ∃ y_ : List ByteArray, y_ = (([] : List ByteArray)) := ⟨_, rfl⟩
  replace H : (impl_listText.l0 k y361 l0 (l0.length : Int) 0) = some r := by first | (rw [hy361]; with_reducible exact H) | (have H2_ := (Option.bind_some _ _).symm.trans H; rw [hy361]; with_reducible exact H2_) | (have H2_ := (Option.bind_some _ _).symm.trans H; with_reducible exact H2_) | with_reducible exact H | (rw [hy361]; exact H) | exact H
  have Ny361 := Aside0.mk hy361
  clear hy361
  have H' := Aside0.mk H
  clear H
  go_enter Tryz.func101, Tryz.ntmps101
  go_wp2_with (first | ((with_reducible refine gate_dst (N := 9) rfl ?_); refine Kd.R_lit Kd.string _ 9 ?hg (N := 9) ?hd (xs := ([] : List ByteArray)) (inner := []) (ok := fun _ => True) (okp := fun _ => True) ?hr ?hp (fun _ hk => hk) trivial (Below.refl _ _) (Nat.le_refl _) (by simp) ?_; (case hd => rfl); (case hg => rfl); (case hr => exact Qj0_); (case hp => exact (Reps.none _ _)); intro v362 w3 ho4 hb hg_ hnew_; clear hg_ hnew_; (first | rw [← Ny361.out] at ho4 | (simp only [Int.reduceToNat] at ho4; rw [← Ny361.out] at ho4)); have n0_ := Aside0.mk (Kd.R_lower ho4 (below_size Qa0_)); have n1_ := Aside0.mk (below_step Qa0_ hb); clear HB; have HO363 := n0_; have HB := n1_; clear n0_ n1_; clear hb ho4))
  go_loopg [3, 12] k (fun kq v3 v12 w' => ∃ (x3_1 : List ByteArray) (x12_1 : Int), v12 = .int .i64 x12_1 ∧ Aside0 (impl_listText.l0 kq x3_1 l0 (l0.length : Int) x12_1 = some r) ∧ Aside0 (kq ≤ k) ∧ Aside0 (Kd.R Kd.string 9 w' w.heap.size (fun _ => True) v3 x3_1) ∧ Aside0 (Below w.heap.size w w'))
  case atStart => exact ⟨(y361), (0), Qf0_, H', ⟨Nat.le_refl _⟩, ⟨Qr_ HO363.out⟩, ⟨Qa0_⟩⟩
  case round =>
   clear H'
   try clear c1
   try clear c2
   try clear c2b0
   try clear c2b1
   try clear c2b2
   try clear p2
   obtain ⟨x3_1, x12_1, rfl, HA, HK1, HO_3, HB⟩ := hrel
   cases gk with
   | zero => exact absurd HA.out (by simp [impl_listText.l0])
   | succ k1 =>
    have H := HA.out
    clear HA
    simp only [impl_listText.l0] at H
    by_cases c5 : x12_1 < (l0.length : Int)
    ·rw [if_pos c5] at H
     have c5b0 := decide_eq_true c5
     clear c5
     by_cases c6 : 0 ≤ x12_1
     ·rw [if_pos c6] at H
      have c6b0 := decide_eq_true c6
      clear c6
      by_cases c7 : x12_1 < (l0.length : Int)
      ·rw [if_pos c7] at H
       have c7b0 := decide_eq_true c7
       clear c7
       replace H := Option.bind_eq_some_iff.mp H
       obtain ⟨t365, A80, H⟩ := H
       try dsimp only at H
       have A8 := Aside0.mk A80
       clear A80
       by_cases c9 : x3_1.length < 8796093022208
       ·rw [if_pos c9] at H
        have LMc9 := Aside0.mk c9
        clear c9
        obtain ⟨y366, hy366⟩ : ∃ y_ : List ByteArray, y_ = (x3_1 ++ [t365]) := ⟨_, rfl⟩
        replace H : (impl_listText.l0 k1 y366 l0 (l0.length : Int) (wrap64 (x12_1 + 1))) = some r := by first | (rw [hy366]; with_reducible exact H) | (have H2_ := (Option.bind_some _ _).symm.trans H; rw [hy366]; with_reducible exact H2_) | (have H2_ := (Option.bind_some _ _).symm.trans H; with_reducible exact H2_) | with_reducible exact H | (rw [hy366]; exact H) | exact H
        have Ny366 := Aside0.mk hy366
        clear hy366
        have H' := Aside0.mk H
        clear H
        have p364 : 0 ≤ (x12_1 : Int) := of_decide_eq_true Qg0_
        have q364 : x12_1 < (l0.length : Int) := of_decide_eq_true Qg0_
        obtain ⟨ad364, e364, hx364_0⟩ := Kd.at_int HR0.out x12_1 p364 q364
        cases e364
        replace hx364_0 := (HB.out.cell (World.block_lt_of_cell? w _ hx364_0)).trans hx364_0
        replace p364 := eq_true p364
        replace q364 := eq_true q364
        go_wp2_with (first | ((with_reducible refine gate_callee (f := 66) rfl ?_); refine goesL_ (some 18) rfl rfl Tryz.func66 Ql0_ rfl #[.int .i64 (rd l0 x12_1)] rfl Qb0_ ?_; (with_reducible refine (impl_Decimal.calls (rd l0 x12_1) t365 _ ?tb A8.out).mono ?_); (case tb => exact Qk1_); rintro e w10 ⟨rfl, hb⟩; refine ⟨_, rfl, ?_⟩; have n0_ := Aside0.mk (Kd.R_below (Qr_ HO_3.out) hb); have n1_ := Aside0.mk (below_step Qa0_ hb); clear HO_3; clear HB; have HO_3 := n0_; have HB := n1_; clear n0_ n1_; (try clear hb); (try clear hb2); (try clear hk); (try clear hi)) | ((with_reducible refine gate_builtin (b := .append) (xs := #[.tmp 16, .tmp 19]) rfl ?_); at_builtin; refine Kd.R_append Kd.string (w0 := w) w.heap.size rfl (.tmp 16) (.tmp 19) 24 9 (.string ⟨#[]⟩) 16 rfl Tryz.underlying24 info9 rfl (by decide) (by omega) u3 x3_1 t365 [.string t365] (fun _ => True) (fun _ => False) rfl rfl ?aP (fun _ hk => hk.elim) ?aF ?aO ?aB ?aS ?aL ?_; (case aP => exact rfl); (case aB => exact Qa0_); (case aF => exact (fun _ _ => trivial)); (case aO => exact (Qr_ HO_3.out)); (case aS => exact (below_size Qa0_)); (case aL => have := LMc9.out; omega); intro v367 w11 ho hb hg hat; rw [← Ny366.out] at ho; have n0_ := Aside0.mk (hb); have n1_ := Aside0.mk (ho); clear HB; clear HO_3; have HB := n0_; have HO368 := n1_; clear n0_ n1_; clear ho hb hg hat))
        go_roundg k1
        case measure => have := HK1.out; omega
        case rel => exact ⟨(y366), (wrap64 (x12_1 + 1)), Qf0_, H', ⟨Qs0_⟩, ⟨Qr_ HO368.out⟩, ⟨Qa0_⟩⟩
       ·rw [if_neg c9] at H
        exact absurd H (by simp)
      ·rw [if_neg c7] at H
       exact absurd H (by simp)
     ·rw [if_neg c6] at H
      exact absurd H (by simp)
    ·rw [if_neg c5] at H
     have c5b0 := decide_eq_false c5
     clear c5
     replace H := Option.bind_eq_some_iff.mp H
     obtain ⟨t369, A120, H⟩ := H
     try dsimp only at H
     have A12 := Aside0.mk A120
     clear A120
     obtain rfl := Option.some.inj H
     obtain ⟨Ao13, co13, eo13⟩ := Kd.R_slice HO_3.out
     subst eo13
     go_wp2_with (first | ((with_reducible refine gate_callee (f := 133) rfl ?_); refine goesL_ (some 23) rfl rfl Tryz.func133 Ql0_ rfl #[.slice Ao13 x3_1.length co13, .string (⟨#[44]⟩ : ByteArray)] rfl Qb0_ ?_; (with_reducible refine (strings_Join.calls _ _ x3_1 (⟨#[44]⟩ : ByteArray) t369 _ ?side1 ?side2 A12.out).mono ?_); (case side1 => exact Qc_ (Kd.R_reads' HO_3.out).2.2); (case side2 => exact (Kd.R_reads' HO_3.out).2.1); rintro e w14 ⟨rfl, hb⟩; refine ⟨_, rfl, ?_⟩; have n0_ := Aside0.mk (Kd.R_below (Qr_ HO_3.out) hb); have n1_ := Aside0.mk (below_step Qa0_ hb); clear HO_3; clear HB; have HO_3 := n0_; have HB := n1_; clear n0_ n1_; (try clear hb); (try clear hb2); (try clear hk); (try clear hi)))
     go_ret
     exact ⟨Qh0_, Qa0_⟩
def impl_ListText.f (k : Nat) (l0 : List Int) : Option (ByteArray × Bool) := if (l0.length : Int) > 64 then (some ((⟨#[]⟩ : ByteArray), false)) else ((impl_areIn.f k l0 (-1000000000000000) 1000000000000000).bind fun t370 => (if t370 = true then ((impl_listText.f k l0).bind fun t371 => (some (t371, true))) else (some ((⟨#[]⟩ : ByteArray), false))))
set_option maxHeartbeats 8000000 in
set_option maxRecDepth 100000 in
theorem impl_ListText.calls (k : Nat) (A0 : Option Addr) (c0 : Nat) (l0 : List Int) (r1 : ByteArray) (r2 : Bool) (w : World) (hr0 : Kd.C (Kd.int .i64) w A0 l0.length l0) (hc0 : l0.length ≤ c0) (hT : LibW w) (h : impl_ListText.f k l0 = some (r1, r2)) :
 Calls Tryz.prog 62 #[.slice A0 l0.length c0] w fun e w' => e = .returned (.tuple #[.string r1, .bool r2]) ∧ Below w.heap.size w w' := by
 have HT := Aside0.mk hT
 clear hT
 have HR0 := Aside0.mk hr0
 have HC0 := Aside0.mk hc0
 clear hr0 hc0
 have HB := Aside0.mk (Below.refl w.heap.size w)
 have H : (if (l0.length : Int) > 64 then (some ((⟨#[]⟩ : ByteArray), false)) else ((impl_areIn.f k l0 (-1000000000000000) 1000000000000000).bind fun t370 => (if t370 = true then ((impl_listText.f k l0).bind fun t371 => (some (t371, true))) else (some ((⟨#[]⟩ : ByteArray), false))))) = some (r1, r2) := h
 clear h
 by_cases c2 : (l0.length : Int) > 64
 ·rw [if_pos c2] at H
  have c2b0 := decide_eq_true c2
  have c2b1 : decide (64 < l0.length) = true := decide_eq_true (by omega)
  clear c2
  simp only [Option.some.injEq, Prod.mk.injEq] at H
  obtain ⟨rfl, rfl⟩ := H
  go_enter Tryz.func62, Tryz.ntmps62
  go_wp2
  go_ret2
  exact ⟨Qh0_, Qa0_⟩
 ·rw [if_neg c2] at H
  have c2b0 := decide_eq_false c2
  have c2b1 : decide (64 < l0.length) = false := decide_eq_false (by omega)
  clear c2
  replace H := Option.bind_eq_some_iff.mp H
  obtain ⟨t370, A30, H⟩ := H
  try dsimp only at H
  have A3 := Aside0.mk A30
  clear A30
  by_cases c4 : t370 = true
  ·subst c4
   rw [if_pos rfl] at H
   have H1 := H
   clear H
   have H := H1
   clear H1
   replace H := Option.bind_eq_some_iff.mp H
   obtain ⟨t371, A50, H⟩ := H
   try dsimp only at H
   have A5 := Aside0.mk A50
   clear A50
   simp only [Option.some.injEq, Prod.mk.injEq] at H
   obtain ⟨rfl, rfl⟩ := H
   go_enter Tryz.func62, Tryz.ntmps62
   go_wp2_with (first | (go_at_call 100; (with_reducible refine (impl_areIn.calls k _ _ l0 (-1000000000000000) 1000000000000000 true _ ?side1 ?side2 A3.out).mono ?_); (case side1 => exact Qc_ HR0.out); (case side2 => exact HC0.out); rintro e w' ⟨rfl, ⟨nd, rfl⟩⟩) | ((with_reducible refine gate_callee (f := 101) rfl ?_); refine goesL_ (some 13) rfl rfl Tryz.func101 Ql0_ rfl #[.slice A0 l0.length c0] rfl Qb0_ ?_; (with_reducible refine (impl_listText.calls k _ _ l0 t371 _ ?side1 ?side2 ?tb A5.out).mono ?_); (case tb => exact Qk1_); (case side1 => exact Qc_ HR0.out); (case side2 => exact HC0.out); rintro e w6 ⟨rfl, hb⟩; refine ⟨_, rfl, ?_⟩; have n0_ := Aside0.mk (below_step Qa0_ hb); clear HB; have HB := n0_; clear n0_; (try clear hb); (try clear hb2); (try clear hk); (try clear hi)))
   go_ret2
   exact ⟨Qh0_, Qa0_⟩
  ·replace c4 := Bool.eq_false_iff.mpr c4
   subst c4
   rw [if_neg (show ¬ (false = true) by decide)] at H
   have H1 := H
   clear H
   have H := H1
   clear H1
   simp only [Option.some.injEq, Prod.mk.injEq] at H
   obtain ⟨rfl, rfl⟩ := H
   go_enter Tryz.func62, Tryz.ntmps62
   go_wp2_with (first | (go_at_call 100; (with_reducible refine (impl_areIn.calls k _ _ l0 (-1000000000000000) 1000000000000000 false _ ?side1 ?side2 A3.out).mono ?_); (case side1 => exact Qc_ HR0.out); (case side2 => exact HC0.out); rintro e w' ⟨rfl, ⟨nd, rfl⟩⟩))
   go_ret2
   exact ⟨Qh0_, Qa0_⟩
end Go.Proofs.YtdaeioklcilipaaGreatDoor.QFnConsole
