/- Made small by wip/pack.py: lemmas and contracts that the law's row leans on. -/
import Derived.Test.YtdnjebnmianogaaGreatDoorZFnTop27
import Derived.Test.YtdnjebnmianogaaGreatDoorZFnTop30
import Derived.Test.YtdnjebnmianogaaGreatDoorZFnTop37
namespace Go.Proofs.YtdnjebnmianogaaGreatDoor.QFnTop
open Go.RowKit Go.Proofs.YtdnjebnmianogaaGreatDoorW.PrintWords Go.Proofs.YtdnjebnmianogaaGreatDoorW.PrintLast Go.Proofs.YtdnjebnmianogaaGreatDoorW.PrintMore
attribute [local go_sem] max2_int min2_int max_two min_two max_three min_three max_four min_four
set_option linter.unusedVariables false
set_option linter.unusedSimpArgs false
theorem rb_row {w w1 : World} {base : Nat} {v : Value} {xs : List Int} (h : Kd.R (Kd.int .i64) 2 w base (fun _ => True) v xs) (hm : ∀ k, v.ownBlock = some k → w1.heap[k]? = w.heap[k]?) : Kd.R (Kd.int .i64) 2 w1 base (fun _ => True) v xs :=
 Kd.R_of_own (own_move (Kd.own_of_R h) hm) (fun _ _ => trivial)
theorem rb_lt {w : World} {base : Nat} {v : Value} {xs : List Int} (h : Kd.R (Kd.int .i64) 2 w base (fun _ => True) v xs) : ∀ k, v.ownBlock = some k → k < w.heap.size := fun k hk => own_lt (Kd.own_of_R h) k hk
theorem rb_cells (o s : ByteArray) (e : Int) (h0 : 0 ≤ e) (h1 : e < (s.size : Int)) : Lib.byteCells o.data.toList ++ [.int .u8 (bt s e)] = Lib.byteCells (o ++ s.extract e.toNat (e.toNat + 1)).data.toList := by
 have hl : e.toNat < s.size := by omega
 have hl2 : e.toNat < s.data.toList.length := by rw [Array.length_toList]; exact hl
 have e1 : (s.extract e.toNat (e.toNat + 1)).data.toList = [s.data.toList[e.toNat]] := by
  rw [ByteArray.data_extract, Array.toList_extract]
  show (s.data.toList.drop e.toNat).take (e.toNat + 1 - e.toNat) = _
  rw [List.drop_eq_getElem_cons hl2, show e.toNat + 1 - e.toNat = 1 by omega]
  rfl
 have e2 : bt s e = ((s.data.toList[e.toNat]).toNat : Int) := by
  rw [← bt_at s e hl]
  rw [Array.getElem_toList]
  rfl
 rw [ByteArray.data_append, Array.toList_append, e1, e2]
 simp [Lib.byteCells]
theorem rb_len (s : ByteArray) : (Lib.byteCells s.data.toList).length = s.size := by
 unfold Lib.byteCells
 rw [List.length_map, Array.length_toList]; rfl
def RbI (w w' : World) (ve vt : Value) (xs ts : List Int) : Prop :=
 Below w.heap.size w w' ∧ Kd.R (Kd.int .i64) 2 w' w.heap.size (fun _ => True) ve xs ∧ Kd.R (Kd.int .i64) 2 w' w.heap.size (fun _ => True) vt ts ∧ ∀ k, ve.ownBlock = some k → vt.ownBlock ≠ some k
theorem RbI.times {w w1 w2 : World} {ve vt vt2 : Value} {xs ts ts2 : List Int} (h : RbI w w1 ve vt xs ts) (ho : Kd.R (Kd.int .i64) 2 w2 w.heap.size (fun _ => True) vt2 ts2) (hb : Below w.heap.size w w2) (hg : w1.grownBy w2 vt.ownBlock) (hat : vt2.ownBlock = vt.ownBlock ∨ ∃ b, vt2.ownBlock = some b ∧ w1.heap.size ≤ b) : RbI w w2 ve vt2 xs ts2 := by
 refine ⟨hb, rb_row h.2.1 (fun k hk => hg.block k (rb_lt h.2.1 k hk) (fun e => h.2.2.2 k hk e.symm)), ho, fun k h1 h2 => ?_⟩
 rcases hat with h3 | ⟨b, h3, h4⟩
 ·exact h.2.2.2 k h1 (h3.symm.trans h2)
 ·rw [h2] at h3
  cases h3
  have := rb_lt h.2.1 k h1
  omega
theorem RbI.below {w w1 w2 : World} {ve vt : Value} {xs ts : List Int} (h : RbI w w1 ve vt xs ts) (hB : Below w1.heap.size w1 w2) : RbI w w2 ve vt xs ts :=
 ⟨below_step h.1 hB, rb_row h.2.1 (fun k hk => hB.block k (rb_lt h.2.1 k hk)), rb_row h.2.2.1 (fun k hk => hB.block k (rb_lt h.2.2.1 k hk)), h.2.2.2⟩
theorem aw_b {w w1 w2 : World} (h : Below w.heap.size w w1) (h2 : Below w1.heap.size w1 w2) : Below w.heap.size w w2 := below_step h h2
theorem aw_b2 {w w1 w2 : World} {n : Nat} (h : Below w.heap.size w w1) (h2 : Below (w1.drewN n).heap.size (w1.drewN n) w2) : Below w.heap.size w w2 := below_step (pw_below_drewN h n) h2
def impl_ReceiveBits.l0 : Nat → List Int → List Int → Int → List Int → Int → Option (List Int)
 | 0, _, _, _, _, _ => none
 | k + 1, xs, ji, se, ts, i => if i < (xs.length : Int) then (if 0 ≤ i then (if i < (ji.length : Int) then (if ts.length < 1000 then (impl_ReceiveBits.l0 k xs ji se (ts ++ [wrap64 (wrap64 ((rd xs i) * se) + (rd ji i))]) (wrap64 (i + 1))) else (none)) else (none)) else (none)) else (some ts)
def impl_ReceiveBits.l2 : Nat → ByteArray → List Int → Int → Int → Int → Int → ByteArray → Option (ByteArray)
 | 0, _, _, _, _, _, _, _ => none
 | k + 1, s, ts, ta, e, i, tw, o => if 0 ≤ wrap64 (i + 1) then (if wrap64 (i + 1) < (ts.length : Int) then (if tw < wrap64 (2 * (rd ts (wrap64 (i + 1)))) then (if 0 ≤ e then (if e < (s.size : Int) then (if o.size < 100000 then (impl_ReceiveBits.l2 k s ts ta e i (wrap64 (tw + wrap64 (2 * ta))) (o ++ s.extract e.toNat (e.toNat + 1))) else (none)) else (none)) else (none)) else (some o)) else (none)) else (none)
def impl_ReceiveBits.l1 : Nat → ByteArray → List Int → List Int → Int → Int → ByteArray → Option (ByteArray)
 | 0, _, _, _, _, _, _ => none
 | k + 1, s, xs, ts, ta, i, o => if i < (xs.length : Int) then (if 0 ≤ i then (if i < (ts.length : Int) then ((impl_ReceiveBits.l2 k s ts ta (rd xs i) i (wrap64 (wrap64 (2 * (rd ts i)) + ta)) o).bind fun o2 => (impl_ReceiveBits.l1 k s xs ts ta (wrap64 (i + 1)) o2)) else (none)) else (none)) else (some o)
def impl_ReceiveBits.f (k : Nat) (a0 : ByteArray) (a1 a2 : Int) (l3 : List Int) : Option (ByteArray × Bool) := if (a0.size : Int) > 100 then (some ((⟨#[]⟩ : ByteArray), false)) else ((impl_areBits.f a0).bind fun t1 => (if t1 = true then ((impl_areTicks.f a1 a2).bind fun t2 => (if t2 = true then ((impl_areIn.f k l3 (-1000) 1000).bind fun t3 => (if t3 = true then ((impl_edges.f k a0).bind fun xs => (if xs.length ≤ 500 then (if (xs.length : Int) = (l3.length : Int) then (if (l3.length : Int) > 0 ∧ rd l3 0 ≠ 0 then (some ((⟨#[]⟩ : ByteArray), false)) else ((impl_ReceiveBits.l0 k xs l3 a1 [] 0).bind fun ts => (if ts.length < 1000 then ((impl_isIncreasing.f k (ts ++ [wrap64 ((a0.size : Int) * a1)])).bind fun t4 => (if t4 = true then ((impl_ReceiveBits.l1 k a0 xs (ts ++ [wrap64 ((a0.size : Int) * a1)]) a2 0 (⟨#[]⟩ : ByteArray)).bind fun o => (some (o, true))) else (some ((⟨#[]⟩ : ByteArray), false)))) else none))) else (some ((⟨#[]⟩ : ByteArray), false))) else none)) else (some ((⟨#[]⟩ : ByteArray), false)))) else (some ((⟨#[]⟩ : ByteArray), false)))) else (some ((⟨#[]⟩ : ByteArray), false))))
set_option maxHeartbeats 8000000 in
set_option maxRecDepth 100000 in
theorem impl_ReceiveBits.calls (k : Nat) (a0 : ByteArray) (a1 : Int) (a2 : Int) (A3 : Option Addr) (c3 : Nat) (l3 : List Int) (r1 : ByteArray) (r2 : Bool) (w : World) (hr3 : Kd.C (Kd.int .i64) w A3 l3.length l3) (hc3 : l3.length ≤ c3) (h : impl_ReceiveBits.f k a0 a1 a2 l3 = some (r1, r2)) :
 Calls Tryz.prog 117 #[.string a0, .int .i64 a1, .int .i64 a2, .slice A3 l3.length c3] w fun e w' => e = .returned (.tuple #[.string r1, .bool r2]) ∧ Below w.heap.size w w' := by
 have HR3 := Aside0.mk hr3
 have HC3 := Aside0.mk hc3
 have HB := Aside0.mk (Below.refl w.heap.size w)
 clear hr3 hc3
 unfold impl_ReceiveBits.f at h
 by_cases c1 : (a0.size : Int) > 100
 ·rw [if_pos c1] at h
  simp only [Option.some.injEq, Prod.mk.injEq] at h
  obtain ⟨rfl, rfl⟩ := h
  have c1b0 := decide_eq_true c1
  have c1b1 : decide (100 < a0.size) = true := decide_eq_true (by omega)
  clear c1
  go_enter Tryz.func117, Tryz.ntmps117
  go_wp2
  go_ret2
  exact ⟨Qc0_, HB.out⟩
 rw [if_neg c1] at h
 have c1b0 := decide_eq_false c1
 have c1b1 : decide (100 < a0.size) = false := decide_eq_false (by omega)
 clear c1
 obtain ⟨t1, A1, h⟩ := Option.bind_eq_some_iff.mp h
 have A1_ := Aside0.mk A1
 clear A1
 cases t1 with
 | false =>
  replace h : some ((⟨#[]⟩ : ByteArray), false) = some (r1, r2) := h
  simp only [Option.some.injEq, Prod.mk.injEq] at h
  obtain ⟨rfl, rfl⟩ := h
  go_enter Tryz.func117, Tryz.ntmps117
  go_wp2_with (first | (go_at_call 62; (with_reducible refine (impl_areBits.calls a0 false _ A1_.out).mono ?_); rintro e w1 ⟨rfl, hb1⟩; have n0_ := Aside0.mk (aw_b HB.out hb1); clear HB; have HB := n0_; clear n0_ hb1))
  go_ret2
  exact ⟨Qc0_, HB.out⟩
 | true =>
 rw [if_pos rfl] at h
 obtain ⟨t2, A2, h⟩ := Option.bind_eq_some_iff.mp h
 have A2_ := Aside0.mk A2
 clear A2
 cases t2 with
 | false =>
  replace h : some ((⟨#[]⟩ : ByteArray), false) = some (r1, r2) := h
  simp only [Option.some.injEq, Prod.mk.injEq] at h
  obtain ⟨rfl, rfl⟩ := h
  go_enter Tryz.func117, Tryz.ntmps117
  go_wp2_with (first | (go_at_call 62; (with_reducible refine (impl_areBits.calls a0 true _ A1_.out).mono ?_); rintro e w1 ⟨rfl, hb1⟩; have n0_ := Aside0.mk (aw_b HB.out hb1); clear HB; have HB := n0_; clear n0_ hb1) | (go_at_call 132; (with_reducible refine (impl_areTicks.calls a1 a2 false _ A2_.out).mono ?_); rintro e w2 ⟨rfl, ⟨nd2, rfl⟩⟩))
  go_ret2
  exact ⟨Qc0_, Qa0_⟩
 | true =>
 rw [if_pos rfl] at h
 obtain ⟨t3, A3, h⟩ := Option.bind_eq_some_iff.mp h
 have A3_ := Aside0.mk A3
 clear A3
 cases t3 with
 | false =>
  replace h : some ((⟨#[]⟩ : ByteArray), false) = some (r1, r2) := h
  simp only [Option.some.injEq, Prod.mk.injEq] at h
  obtain ⟨rfl, rfl⟩ := h
  go_enter Tryz.func117, Tryz.ntmps117
  go_wp2_with (first | (go_at_call 62; (with_reducible refine (impl_areBits.calls a0 true _ A1_.out).mono ?_); rintro e w1 ⟨rfl, hb1⟩; have n0_ := Aside0.mk (aw_b HB.out hb1); clear HB; have HB := n0_; clear n0_ hb1) | (go_at_call 132; (with_reducible refine (impl_areTicks.calls a1 a2 true _ A2_.out).mono ?_); rintro e w2 ⟨rfl, ⟨nd2, rfl⟩⟩) | (go_at_call 26; (with_reducible refine (impl_areIn.calls k _ c3 l3 (-1000) 1000 false _ ?i1 ?i2 A3_.out).mono ?_); (case i1 => exact Kd.C_below HR3.out Qa0_); (case i2 => exact HC3.out); rintro e w3 ⟨rfl, ⟨nd3, rfl⟩⟩))
  go_ret2
  exact ⟨Qc0_, Qa0_⟩
 | true =>
 rw [if_pos rfl] at h
 obtain ⟨xs, A4, h⟩ := Option.bind_eq_some_iff.mp h
 have A4_ := Aside0.mk A4
 clear A4
 by_cases c5 : xs.length ≤ 500
 rotate_left
 ·rw [if_neg c5] at h
  cases h
 rw [if_pos c5] at h
 have HX := Aside0.mk c5
 clear c5
 by_cases c6 : (xs.length : Int) = (l3.length : Int)
 rotate_left
 ·rw [if_neg c6] at h
  simp only [Option.some.injEq, Prod.mk.injEq] at h
  obtain ⟨rfl, rfl⟩ := h
  have c6b0 : ((xs.length : Int) != (l3.length : Int)) = true := bne_iff_ne.2 c6
  have c6b1 : ((xs.length : Int) == (l3.length : Int)) = false := beq_eq_false_iff_ne.2 c6
  clear c6
  go_enter Tryz.func117, Tryz.ntmps117
  go_wp2_with (first | (go_at_call 62; (with_reducible refine (impl_areBits.calls a0 true _ A1_.out).mono ?_); rintro e w1 ⟨rfl, hb1⟩; have n0_ := Aside0.mk (aw_b HB.out hb1); clear HB; have HB := n0_; clear n0_ hb1) | (go_at_call 132; (with_reducible refine (impl_areTicks.calls a1 a2 true _ A2_.out).mono ?_); rintro e w2 ⟨rfl, ⟨nd2, rfl⟩⟩) | (go_at_call 26; (with_reducible refine (impl_areIn.calls k _ c3 l3 (-1000) 1000 true _ ?i1 ?i2 A3_.out).mono ?_); (case i1 => exact Kd.C_below HR3.out Qa0_); (case i2 => exact HC3.out); rintro e w3 ⟨rfl, ⟨nd3, rfl⟩⟩) | (go_at_call 118; (with_reducible refine (impl_edges.calls k a0 xs _ A4_.out).mono ?_); rintro e w4 ⟨ve, rfl, he4, hb4⟩; have HE := Aside0.mk (Kd.R_lower he4 HB.out.size); have n0_ := Aside0.mk (aw_b2 HB.out hb4); clear HB; have HB := n0_; clear n0_; clear he4 hb4; obtain ⟨Ae, ce, ee⟩ := Kd.R_slice HE.out; subst ee))
  go_ret2
  exact ⟨Qc0_, Qa0_⟩
 rw [if_pos c6] at h
 have c6b0 : ((xs.length : Int) != (l3.length : Int)) = false := by rw [c6, bne_self_eq_false]
 have c6b1 : ((xs.length : Int) == (l3.length : Int)) = true := beq_iff_eq.2 c6
 have HXL := Aside0.mk c6
 clear c6
 have c7s : ((l3.length : Int) > 0 ∧ decide (0 < (l3.length : Int)) = true ∧ decide (0 < l3.length) = true ∧ 0 < l3.length) ∨ (¬ (l3.length : Int) > 0 ∧ decide (0 < (l3.length : Int)) = false ∧ decide (0 < l3.length) = false ∧ l3.length = 0) := by
  by_cases c : 0 < l3.length
  ·exact .inl ⟨by omega, decide_eq_true (by omega), decide_eq_true c, c⟩
  ·exact .inr ⟨by omega, decide_eq_false (by omega), decide_eq_false c, by omega⟩
 rcases c7s with ⟨c7, c7b0, c7b1, c7p⟩ | ⟨c7, c7b0, c7b1, c7z⟩
 ·obtain ⟨ad0, e0, hx0⟩ := Kd.at_int HR3.out 0 (by decide) (by omega)
  cases e0
  have hx0 : w.cell? ad0 = some (.int .i64 (rd l3 0)) := by simpa [Addr.add] using hx0
  have HX0 := Aside0.mk hx0
  by_cases c8 : rd l3 0 ≠ 0
  ·rw [if_pos ⟨c7, c8⟩] at h
   simp only [Option.some.injEq, Prod.mk.injEq] at h
   obtain ⟨rfl, rfl⟩ := h
   have c8b0 : (rd l3 0 != 0) = true := bne_iff_ne.2 c8
   have c8b1 : (rd l3 0 == 0) = false := beq_eq_false_iff_ne.2 c8
   clear c8 c7 hx0
   go_enter Tryz.func117, Tryz.ntmps117
   go_wp2_with (first | (go_at_call 62; (with_reducible refine (impl_areBits.calls a0 true _ A1_.out).mono ?_); rintro e w1 ⟨rfl, hb1⟩; have n0_ := Aside0.mk (aw_b HB.out hb1); clear HB; have HB := n0_; clear n0_ hb1) | (go_at_call 132; (with_reducible refine (impl_areTicks.calls a1 a2 true _ A2_.out).mono ?_); rintro e w2 ⟨rfl, ⟨nd2, rfl⟩⟩) | (go_at_call 26; (with_reducible refine (impl_areIn.calls k _ c3 l3 (-1000) 1000 true _ ?i1 ?i2 A3_.out).mono ?_); (case i1 => exact Kd.C_below HR3.out Qa0_); (case i2 => exact HC3.out); rintro e w3 ⟨rfl, ⟨nd3, rfl⟩⟩) | (go_at_call 118; (with_reducible refine (impl_edges.calls k a0 xs _ A4_.out).mono ?_); rintro e w4 ⟨ve, rfl, he4, hb4⟩; have HE := Aside0.mk (Kd.R_lower he4 HB.out.size); have n0_ := Aside0.mk (aw_b2 HB.out hb4); clear HB; have HB := n0_; clear n0_; clear he4 hb4; obtain ⟨Ae, ce, ee⟩ := Kd.R_slice HE.out; subst ee; have hx0 := (HB.out.cell (World.block_lt_of_cell? w _ HX0.out)).trans HX0.out))
   go_ret2
   exact ⟨Qc0_, Qa0_⟩
  rw [if_neg (fun hh => c8 hh.2)] at h
  have c8b0 : (rd l3 0 != 0) = false := by
   have := Classical.not_not.1 c8
   rw [this]; rfl
  have c8b1 : (rd l3 0 == 0) = true := by
   have := Classical.not_not.1 c8
   rw [this]; rfl
  clear c8 c7 hx0
  obtain ⟨ts, A5, h⟩ := Option.bind_eq_some_iff.mp h
  have A5_ := Aside0.mk A5
  clear A5
  by_cases c9 : ts.length < 1000
  rotate_left
  ·rw [if_neg c9] at h
   cases h
  rw [if_pos c9] at h
  have HTS := Aside0.mk c9
  clear c9
  obtain ⟨jl, hjl⟩ : ∃ j_ : Int, wrap64 ((a0.size : Int) * a1) = j_ := ⟨_, rfl⟩
  rw [hjl] at h
  have hjlw : IntKind.i64.wrap ((a0.size : Int) * a1) = jl := (i64_w _).trans hjl
  obtain ⟨yt, hyt⟩ : ∃ y : List Int, y = ts ++ [jl] := ⟨_, rfl⟩
  rw [← hyt] at h
  have HY := Aside0.mk hyt
  clear hyt
  obtain ⟨t4, A6, h⟩ := Option.bind_eq_some_iff.mp h
  have A6_ := Aside0.mk A6
  clear A6
  have HH := Aside0.mk h
  clear h
  go_enter Tryz.func117, Tryz.ntmps117
  go_wp2_with (first | (go_at_call 62; (with_reducible refine (impl_areBits.calls a0 true _ A1_.out).mono ?_); rintro e w1 ⟨rfl, hb1⟩; have n0_ := Aside0.mk (aw_b HB.out hb1); clear HB; have HB := n0_; clear n0_ hb1) | (go_at_call 132; (with_reducible refine (impl_areTicks.calls a1 a2 true _ A2_.out).mono ?_); rintro e w2 ⟨rfl, ⟨nd2, rfl⟩⟩) | (go_at_call 26; (with_reducible refine (impl_areIn.calls k _ c3 l3 (-1000) 1000 true _ ?i1 ?i2 A3_.out).mono ?_); (case i1 => exact Kd.C_below HR3.out Qa0_); (case i2 => exact HC3.out); rintro e w3 ⟨rfl, ⟨nd3, rfl⟩⟩) | (go_at_call 118; (with_reducible refine (impl_edges.calls k a0 xs _ A4_.out).mono ?_); rintro e w4 ⟨ve, rfl, he4, hb4⟩; have HE := Aside0.mk (Kd.R_lower he4 HB.out.size); have n0_ := Aside0.mk (aw_b2 HB.out hb4); clear HB; have HB := n0_; clear n0_; clear he4 hb4; obtain ⟨Ae, ce, ee⟩ := Kd.R_slice HE.out; subst ee; have hx0 := (HB.out.cell (World.block_lt_of_cell? w _ HX0.out)).trans HX0.out) | ((with_reducible refine gate_dst (N := 55) rfl ?_); refine Kd.R_lit (Kd.int .i64) (w0 := w) w.heap.size 2 ?hg (N := 55) ?hd (xs := ([] : List Int)) (inner := []) (ok := fun _ => True) (okp := fun _ => True) ?hr ?hp (fun _ hk => hk) trivial ?hB ?hS (by simp) ?_; (case hd => rfl); (case hg => rfl); (case hr => exact Qg0_); (case hp => exact (Reps.none _ _)); (case hB => exact HB.out); (case hS => exact HB.out.size); intro v55 w55 ho hb hg_ hnew_; have HJ := Aside0.mk (show RbI w w55 (.slice Ae xs.length ce) v55 xs [] from ⟨hb, rb_row HE.out (fun k hk => hg_.block k (rb_lt HE.out k hk) (by simp)), ho, fun k h1 h2 => by obtain ⟨b, h3, h4⟩ := hnew_; rw [h2] at h3; cases h3; have := rb_lt HE.out k h1; omega⟩); clear HE ho hb hg_ hnew_))
  go_loopg [11, 58] k (fun kq v11 v58 w' => ∃ (i : Int) (tt : List Int), v58 = .int .i64 i ∧ Aside0 (impl_ReceiveBits.l0 kq xs l3 a1 tt i = some ts) ∧ Aside0 (kq ≤ k) ∧ Aside0 (RbI w w' (.slice Ae xs.length ce) v11 xs tt))
  case atStart => exact ⟨0, [], Qc0_, A5_, ⟨Nat.le_refl _⟩, HJ⟩
  case round =>
   clear HJ HB
   obtain ⟨i, tt, rfl, HA, HK1, HI⟩ := hrel
   cases gk with
   | zero => exact absurd HA.out (by simp [impl_ReceiveBits.l0])
   | succ k1 =>
    have H := HA.out
    clear HA
    simp only [impl_ReceiveBits.l0] at H
    by_cases d1 : i < (xs.length : Int)
    ·rw [if_pos d1] at H
     by_cases d2 : 0 ≤ i
     rotate_left
     ·rw [if_neg d2] at H
      exact absurd H (by simp)
     rw [if_pos d2] at H
     by_cases d3 : i < (l3.length : Int)
     rotate_left
     ·rw [if_neg d3] at H
      exact absurd H (by simp)
     rw [if_pos d3] at H
     by_cases d4 : tt.length < 1000
     rotate_left
     ·rw [if_neg d4] at H
      exact absurd H (by simp)
     rw [if_pos d4] at H
     have HL := Aside0.mk d4
     clear d4
     have d1b0 : decide (i < (xs.length : Int)) = true := decide_eq_true d1
     obtain ⟨ad1, e1, hx1⟩ := Kd.at_int (Kd.R_reads' HI.out.2.1).2.2 i d2 d1
     cases e1
     obtain ⟨ad2, e2, hx2⟩ := Kd.at_int (Kd.C_below HR3.out HI.out.1) i d2 d3
     cases e2
     have p1 := eq_true d2
     have q1 := eq_true d1
     have q2 := eq_true d3
     clear d1 d2 d3
     obtain ⟨j1, hj1⟩ : ∃ j_ : Int, wrap64 ((rd xs i) * a1) = j_ := ⟨_, rfl⟩
     rw [hj1] at H
     have hj1w : IntKind.i64.wrap ((rd xs i) * a1) = j1 := (i64_w _).trans hj1
     obtain ⟨j2, hj2⟩ : ∃ j_ : Int, wrap64 (j1 + (rd l3 i)) = j_ := ⟨_, rfl⟩
     rw [hj2] at H
     have hj2w : IntKind.i64.wrap (j1 + (rd l3 i)) = j2 := (i64_w _).trans hj2
     have H' := Aside0.mk H
     clear H
     go_wp2_with (first | ((with_reducible refine gate_builtin (b := .append) (xs := #[.tmp 63, .tmp 72]) rfl ?_); at_builtin; refine Kd.R_append (Kd.int .i64) (w0 := w) w.heap.size rfl (.tmp 63) (.tmp 72) 29 2 (.int .i64 0) 8 rfl Tryz.underlying29 info2 rfl (by decide) (by omega) u11 tt j2 [.int .i64 j2] (fun _ => True) (fun _ => False) rfl rfl ?aP (fun _ hk => hk.elim) (fun _ _ => trivial) ?aO ?aB ?aS ?aL ?_; (case aP => exact rfl); (case aB => exact HI.out.1); (case aO => exact HI.out.2.2.1); (case aS => exact HI.out.1.size); (case aL => have := HL.out; omega); intro v73 w73 ho hb hg_ hat_; have HI2 := Aside0.mk (HI.out.times ho hb hg_ hat_); clear ho hb hg_ hat_))
     go_roundg k1
     case measure => have := HK1.out; omega
     case rel => exact ⟨(wrap64 (i + 1)), (tt ++ [j2]), Qc0_, H', ⟨Qs0_⟩, HI2⟩
    ·rw [if_neg d1] at H
     obtain rfl := Option.some.inj H
     have d1b0 : decide (i < (xs.length : Int)) = false := decide_eq_false d1
     clear d1
     have h := HH.out
     cases t4 with
     | false =>
      replace h : some ((⟨#[]⟩ : ByteArray), false) = some (r1, r2) := h
      simp only [Option.some.injEq, Prod.mk.injEq] at h
      obtain ⟨rfl, rfl⟩ := h
      go_wp2_with (first | ((with_reducible refine gate_builtin (b := .append) (xs := #[.tmp 75, .tmp 80]) rfl ?_); at_builtin; refine Kd.R_append (Kd.int .i64) (w0 := w) w.heap.size rfl (.tmp 75) (.tmp 80) 29 2 (.int .i64 0) 8 rfl Tryz.underlying29 info2 rfl (by decide) (by omega) u11 tt jl [.int .i64 jl] (fun _ => True) (fun _ => False) rfl rfl ?aP (fun _ hk => hk.elim) (fun _ _ => trivial) ?aO ?aB ?aS ?aL ?_; (case aP => exact rfl); (case aB => exact HI.out.1); (case aO => exact HI.out.2.2.1); (case aS => exact HI.out.1.size); (case aL => have := HTS.out; omega); intro v81 w81 ho hb hg_ hat_; rw [← HY.out] at ho; have HI2 := Aside0.mk (HI.out.times ho hb hg_ hat_); clear ho hb hg_ hat_; obtain ⟨At, ct, et⟩ := Kd.R_slice HI2.out.2.2.1; subst et) | (go_at_call 133; (with_reducible refine (impl_isIncreasing.calls k At ct yt false _ ?s1 ?s2 A6_.out).mono ?_); (case s1 => exact (Kd.R_reads' HI2.out.2.2.1).2.2); (case s2 => exact (Kd.R_reads' HI2.out.2.2.1).2.1); rintro e w9 ⟨rfl, ⟨nd9, rfl⟩⟩))
      go_ret2
      exact ⟨Qc0_, pw_below_drewN HI2.out.1 _⟩
     | true =>
     rw [if_pos rfl] at h
     obtain ⟨o, A7, h⟩ := Option.bind_eq_some_iff.mp h
     have A7_ := Aside0.mk A7
     clear A7
     simp only [Option.some.injEq, Prod.mk.injEq] at h
     obtain ⟨rfl, rfl⟩ := h
     go_wp2_with (first | ((with_reducible refine gate_builtin (b := .append) (xs := #[.tmp 75, .tmp 80]) rfl ?_); at_builtin; refine Kd.R_append (Kd.int .i64) (w0 := w) w.heap.size rfl (.tmp 75) (.tmp 80) 29 2 (.int .i64 0) 8 rfl Tryz.underlying29 info2 rfl (by decide) (by omega) u11 tt jl [.int .i64 jl] (fun _ => True) (fun _ => False) rfl rfl ?aP (fun _ hk => hk.elim) (fun _ _ => trivial) ?aO ?aB ?aS ?aL ?_; (case aP => exact rfl); (case aB => exact HI.out.1); (case aO => exact HI.out.2.2.1); (case aS => exact HI.out.1.size); (case aL => have := HTS.out; omega); intro v81 w81 ho hb hg_ hat_; rw [← HY.out] at ho; have HI2 := Aside0.mk (HI.out.times ho hb hg_ hat_); clear ho hb hg_ hat_; obtain ⟨At, ct, et⟩ := Kd.R_slice HI2.out.2.2.1; subst et) | (go_at_call 133; (with_reducible refine (impl_isIncreasing.calls k At ct yt true _ ?s1 ?s2 A6_.out).mono ?_); (case s1 => exact (Kd.R_reads' HI2.out.2.2.1).2.2); (case s2 => exact (Kd.R_reads' HI2.out.2.2.1).2.1); rintro e w9 ⟨rfl, ⟨nd9, hw9⟩⟩; have HI3 := Aside0.mk (show RbI w w9 _ _ _ _ from by rw [hw9]; exact HI2.out.below (pw_below_drewN (Below.refl _ _) _)); clear hw9))
     have HF := Aside0.mk (Lib.fresh_isBuilder 70 5 w9)
     have HQ := Aside0.mk ((Below.refl _ w9).alloc (Nat.le_refl _) (.cells #[.pointer none, .slice none 0 0] 70))
     have HE9 := Aside0.mk (Kd.R_reads' HI3.out.2.1).2.2
     have HT9 := Aside0.mk (Kd.R_reads' HI3.out.2.2.1).2.2
     have HB9 := Aside0.mk HI3.out.1
     clear HI HI2 HI3
     go_loopg [88] k (fun kq v88 w' => ∃ (i_ : Int) (o1 : ByteArray), v88 = .int .i64 i_ ∧ Aside0 (impl_ReceiveBits.l1 kq a0 xs yt a2 i_ o1 = some o) ∧ Aside0 (kq ≤ k) ∧ Aside0 (Lib.IsBuilder 70 5 w9.heap.size w9.heap.size (Lib.byteCells o1.data.toList) w') ∧ Aside0 (Below w9.heap.size w9 w'))
     case atStart => exact ⟨0, (⟨#[]⟩ : ByteArray), Qc0_, A7_, ⟨Nat.le_refl _⟩, ⟨HF.out⟩, HQ⟩
     case round =>
      clear HF HQ HK1 A5_ A6_ A7_ HH d1b0 hjl hjlw
      try clear hx0
      obtain ⟨i_, o1, rfl, HA, HK1, HO, HB⟩ := hrel
      cases gk with
      | zero => exact absurd HA.out (by simp [impl_ReceiveBits.l1])
      | succ k2 =>
       have H := HA.out
       clear HA
       simp only [impl_ReceiveBits.l1] at H
       by_cases f1 : i_ < (xs.length : Int)
       rotate_left
       ·rw [if_neg f1] at H
        obtain rfl := Option.some.inj H
        have f1b0 : decide (i_ < (xs.length : Int)) = false := decide_eq_false f1
        clear f1
        go_wp2_with (first | (go_at_call 50; refine (Tryz.Builder_String_any w9.heap.size w9.heap.size o1.data.toList _ ?s1 ?s2).mono ?_; (case s1 => exact HO.out); (case s2 => exact HB.out.size); rintro e w12 ⟨rfl, hb⟩; have n0_ := Aside0.mk (HB.out.trans hb); clear HB; have HB := n0_; clear n0_ hb))
        go_ret2
        exact ⟨Qc0_, below_step HB9.out HB.out⟩
       rw [if_pos f1] at H
       by_cases f2 : 0 ≤ i_
       rotate_left
       ·rw [if_neg f2] at H
        exact absurd H (by simp)
       rw [if_pos f2] at H
       by_cases f3 : i_ < (yt.length : Int)
       rotate_left
       ·rw [if_neg f3] at H
        exact absurd H (by simp)
       rw [if_pos f3] at H
       obtain ⟨o2, A8, H⟩ := Option.bind_eq_some_iff.mp H
       have f1b0 : decide (i_ < (xs.length : Int)) = true := decide_eq_true f1
       obtain ⟨ad1, e1, hx1⟩ := Kd.at_int (Kd.C_below HE9.out HB.out) i_ f2 f1
       cases e1
       obtain ⟨ad2, e2, hx2⟩ := Kd.at_int (Kd.C_below HT9.out HB.out) i_ f2 f3
       cases e2
       have p1 := eq_true f2
       have q1 := eq_true f1
       have q2 := eq_true f3
       clear f1 f2 f3
       obtain ⟨e_, he_⟩ : ∃ x : Int, x = rd xs i_ := ⟨_, rfl⟩
       rw [← he_] at A8 hx1
       clear he_
       obtain ⟨j1, hj1⟩ : ∃ j_ : Int, wrap64 (2 * (rd yt i_)) = j_ := ⟨_, rfl⟩
       rw [hj1] at A8
       have hj1w : IntKind.i64.wrap (2 * (rd yt i_)) = j1 := (i64_w _).trans hj1
       obtain ⟨j2, hj2⟩ : ∃ j_ : Int, wrap64 (j1 + a2) = j_ := ⟨_, rfl⟩
       rw [hj2] at A8
       have hj2w : IntKind.i64.wrap (j1 + a2) = j2 := (i64_w _).trans hj2
       have A8_ := Aside0.mk A8
       have H' := Aside0.mk H
       clear H A8
       go_wp2
       go_loopg [17] k2 (fun kq v17 w' => ∃ (tw : Int) (o3 : ByteArray), v17 = .int .i64 tw ∧ Aside0 (impl_ReceiveBits.l2 kq a0 yt a2 e_ i_ tw o3 = some o2) ∧ Aside0 (kq ≤ k2) ∧ Aside0 (Lib.IsBuilder 70 5 w9.heap.size w9.heap.size (Lib.byteCells o3.data.toList) w') ∧ Aside0 (Below w9.heap.size w9 w'))
       case atStart => exact ⟨j2, o1, Qc0_, A8_, ⟨Nat.le_refl _⟩, ⟨HO.out⟩, HB⟩
       case round =>
        clear A8_ hx1 hx2 HO HB hj1 hj1w hj2 hj2w f1b0 q1 q2
        obtain ⟨tw, o3, rfl, HA, HK2, HO, HB⟩ := hrel
        cases gk with
        | zero => exact absurd HA.out (by simp [impl_ReceiveBits.l2])
        | succ k3 =>
         have H := HA.out
         clear HA
         simp only [impl_ReceiveBits.l2] at H
         obtain ⟨ip, hip⟩ : ∃ j_ : Int, wrap64 (i_ + 1) = j_ := ⟨_, rfl⟩
         rw [hip] at H
         have hipw : IntKind.i64.wrap (i_ + 1) = ip := (i64_w _).trans hip
         by_cases g1 : 0 ≤ ip
         rotate_left
         ·rw [if_neg g1] at H
          exact absurd H (by simp)
         rw [if_pos g1] at H
         by_cases g2 : ip < (yt.length : Int)
         rotate_left
         ·rw [if_neg g2] at H
          exact absurd H (by simp)
         rw [if_pos g2] at H
         obtain ⟨ad3, e3, hx3⟩ := Kd.at_int (Kd.C_below HT9.out HB.out) ip g1 g2
         obtain rfl : ad2 = ad3 := (by injection e3)
         clear e3
         have p3 := eq_true g1
         have q3 := eq_true g2
         clear g1 g2
         obtain ⟨j3, hj3⟩ : ∃ j_ : Int, wrap64 (2 * (rd yt ip)) = j_ := ⟨_, rfl⟩
         rw [hj3] at H
         have hj3w : IntKind.i64.wrap (2 * (rd yt ip)) = j3 := (i64_w _).trans hj3
         by_cases g3 : tw < j3
         ·rw [if_pos g3] at H
          have g3b0 : decide (tw < j3) = true := decide_eq_true g3
          clear g3
          by_cases g4 : 0 ≤ e_
          rotate_left
          ·rw [if_neg g4] at H
           exact absurd H (by simp)
          rw [if_pos g4] at H
          by_cases g5 : e_ < (a0.size : Int)
          rotate_left
          ·rw [if_neg g5] at H
           exact absurd H (by simp)
          rw [if_pos g5] at H
          by_cases g6 : o3.size < 100000
          rotate_left
          ·rw [if_neg g6] at H
           exact absurd H (by simp)
          rw [if_pos g6] at H
          have HG := Aside0.mk (And.intro g4 (And.intro g5 g6))
          have p4 := eq_true g4
          have q4 := eq_true g5
          have hx4 := bt_at a0 e_
          clear g4 g5 g6
          obtain ⟨j4, hj4⟩ : ∃ j_ : Int, wrap64 (2 * a2) = j_ := ⟨_, rfl⟩
          rw [hj4] at H
          have hj4w : IntKind.i64.wrap (2 * a2) = j4 := (i64_w _).trans hj4
          obtain ⟨j5, hj5⟩ : ∃ j_ : Int, wrap64 (tw + j4) = j_ := ⟨_, rfl⟩
          rw [hj5] at H
          have hj5w : IntKind.i64.wrap (tw + j4) = j5 := (i64_w _).trans hj5
          have H'' := Aside0.mk H
          clear H
          go_wp2_with (first | (go_at_call 134; refine (Tryz.Builder_WriteByte w9.heap.size w9.heap.size (Lib.byteCells o3.data.toList) (bt a0 e_) _ ?s1 ?s2 ?s3).mono ?_; (case s1 => exact HO.out); (case s2 => exact (by rw [rb_len]; have := HG.out.2.2; omega)); (case s3 => exact HB.out.size); rintro e w13 ⟨rfl, hbu, hb⟩; have n0_ := Aside0.mk (HB.out.trans hb); have n1_ := Aside0.mk hbu; clear HB HO; have HB := n0_; have HO := n1_; clear n0_ n1_ hbu hb))
          go_roundg k3
          case measure => have := HK2.out; omega
          case rel => exact ⟨j5, _, Qc0_, H'', ⟨by have := HK2.out; omega⟩, ⟨by rw [← rb_cells _ _ _ HG.out.1 HG.out.2.1]; exact Or.inr HO.out⟩, HB⟩
         ·rw [if_neg g3] at H
          obtain rfl := Option.some.inj H
          have g3b0 : decide (tw < j3) = false := decide_eq_false g3
          clear g3
          go_wp2
          go_roundg k2
          case measure => have := HK1.out; omega
          case rel => exact ⟨(wrap64 (i_ + 1)), o3, Qc0_, H', ⟨Qs0_⟩, ⟨HO.out⟩, HB⟩
 ·rw [if_neg (fun hh => c7 hh.1)] at h
  clear c7 c7z
  obtain ⟨ts, A5, h⟩ := Option.bind_eq_some_iff.mp h
  have A5_ := Aside0.mk A5
  clear A5
  by_cases c9 : ts.length < 1000
  rotate_left
  ·rw [if_neg c9] at h
   cases h
  rw [if_pos c9] at h
  have HTS := Aside0.mk c9
  clear c9
  obtain ⟨jl, hjl⟩ : ∃ j_ : Int, wrap64 ((a0.size : Int) * a1) = j_ := ⟨_, rfl⟩
  rw [hjl] at h
  have hjlw : IntKind.i64.wrap ((a0.size : Int) * a1) = jl := (i64_w _).trans hjl
  obtain ⟨yt, hyt⟩ : ∃ y : List Int, y = ts ++ [jl] := ⟨_, rfl⟩
  rw [← hyt] at h
  have HY := Aside0.mk hyt
  clear hyt
  obtain ⟨t4, A6, h⟩ := Option.bind_eq_some_iff.mp h
  have A6_ := Aside0.mk A6
  clear A6
  have HH := Aside0.mk h
  clear h
  go_enter Tryz.func117, Tryz.ntmps117
  go_wp2_with (first | (go_at_call 62; (with_reducible refine (impl_areBits.calls a0 true _ A1_.out).mono ?_); rintro e w1 ⟨rfl, hb1⟩; have n0_ := Aside0.mk (aw_b HB.out hb1); clear HB; have HB := n0_; clear n0_ hb1) | (go_at_call 132; (with_reducible refine (impl_areTicks.calls a1 a2 true _ A2_.out).mono ?_); rintro e w2 ⟨rfl, ⟨nd2, rfl⟩⟩) | (go_at_call 26; (with_reducible refine (impl_areIn.calls k _ c3 l3 (-1000) 1000 true _ ?i1 ?i2 A3_.out).mono ?_); (case i1 => exact Kd.C_below HR3.out Qa0_); (case i2 => exact HC3.out); rintro e w3 ⟨rfl, ⟨nd3, rfl⟩⟩) | (go_at_call 118; (with_reducible refine (impl_edges.calls k a0 xs _ A4_.out).mono ?_); rintro e w4 ⟨ve, rfl, he4, hb4⟩; have HE := Aside0.mk (Kd.R_lower he4 HB.out.size); have n0_ := Aside0.mk (aw_b2 HB.out hb4); clear HB; have HB := n0_; clear n0_; clear he4 hb4; obtain ⟨Ae, ce, ee⟩ := Kd.R_slice HE.out; subst ee) | ((with_reducible refine gate_dst (N := 55) rfl ?_); refine Kd.R_lit (Kd.int .i64) (w0 := w) w.heap.size 2 ?hg (N := 55) ?hd (xs := ([] : List Int)) (inner := []) (ok := fun _ => True) (okp := fun _ => True) ?hr ?hp (fun _ hk => hk) trivial ?hB ?hS (by simp) ?_; (case hd => rfl); (case hg => rfl); (case hr => exact Qg0_); (case hp => exact (Reps.none _ _)); (case hB => exact HB.out); (case hS => exact HB.out.size); intro v55 w55 ho hb hg_ hnew_; have HJ := Aside0.mk (show RbI w w55 (.slice Ae xs.length ce) v55 xs [] from ⟨hb, rb_row HE.out (fun k hk => hg_.block k (rb_lt HE.out k hk) (by simp)), ho, fun k h1 h2 => by obtain ⟨b, h3, h4⟩ := hnew_; rw [h2] at h3; cases h3; have := rb_lt HE.out k h1; omega⟩); clear HE ho hb hg_ hnew_))
  go_loopg [11, 58] k (fun kq v11 v58 w' => ∃ (i : Int) (tt : List Int), v58 = .int .i64 i ∧ Aside0 (impl_ReceiveBits.l0 kq xs l3 a1 tt i = some ts) ∧ Aside0 (kq ≤ k) ∧ Aside0 (RbI w w' (.slice Ae xs.length ce) v11 xs tt))
  case atStart => exact ⟨0, [], Qc0_, A5_, ⟨Nat.le_refl _⟩, HJ⟩
  case round =>
   clear HJ HB
   obtain ⟨i, tt, rfl, HA, HK1, HI⟩ := hrel
   cases gk with
   | zero => exact absurd HA.out (by simp [impl_ReceiveBits.l0])
   | succ k1 =>
    have H := HA.out
    clear HA
    simp only [impl_ReceiveBits.l0] at H
    by_cases d1 : i < (xs.length : Int)
    ·rw [if_pos d1] at H
     by_cases d2 : 0 ≤ i
     rotate_left
     ·rw [if_neg d2] at H
      exact absurd H (by simp)
     rw [if_pos d2] at H
     by_cases d3 : i < (l3.length : Int)
     rotate_left
     ·rw [if_neg d3] at H
      exact absurd H (by simp)
     rw [if_pos d3] at H
     by_cases d4 : tt.length < 1000
     rotate_left
     ·rw [if_neg d4] at H
      exact absurd H (by simp)
     rw [if_pos d4] at H
     have HL := Aside0.mk d4
     clear d4
     have d1b0 : decide (i < (xs.length : Int)) = true := decide_eq_true d1
     obtain ⟨ad1, e1, hx1⟩ := Kd.at_int (Kd.R_reads' HI.out.2.1).2.2 i d2 d1
     cases e1
     obtain ⟨ad2, e2, hx2⟩ := Kd.at_int (Kd.C_below HR3.out HI.out.1) i d2 d3
     cases e2
     have p1 := eq_true d2
     have q1 := eq_true d1
     have q2 := eq_true d3
     clear d1 d2 d3
     obtain ⟨j1, hj1⟩ : ∃ j_ : Int, wrap64 ((rd xs i) * a1) = j_ := ⟨_, rfl⟩
     rw [hj1] at H
     have hj1w : IntKind.i64.wrap ((rd xs i) * a1) = j1 := (i64_w _).trans hj1
     obtain ⟨j2, hj2⟩ : ∃ j_ : Int, wrap64 (j1 + (rd l3 i)) = j_ := ⟨_, rfl⟩
     rw [hj2] at H
     have hj2w : IntKind.i64.wrap (j1 + (rd l3 i)) = j2 := (i64_w _).trans hj2
     have H' := Aside0.mk H
     clear H
     go_wp2_with (first | ((with_reducible refine gate_builtin (b := .append) (xs := #[.tmp 63, .tmp 72]) rfl ?_); at_builtin; refine Kd.R_append (Kd.int .i64) (w0 := w) w.heap.size rfl (.tmp 63) (.tmp 72) 29 2 (.int .i64 0) 8 rfl Tryz.underlying29 info2 rfl (by decide) (by omega) u11 tt j2 [.int .i64 j2] (fun _ => True) (fun _ => False) rfl rfl ?aP (fun _ hk => hk.elim) (fun _ _ => trivial) ?aO ?aB ?aS ?aL ?_; (case aP => exact rfl); (case aB => exact HI.out.1); (case aO => exact HI.out.2.2.1); (case aS => exact HI.out.1.size); (case aL => have := HL.out; omega); intro v73 w73 ho hb hg_ hat_; have HI2 := Aside0.mk (HI.out.times ho hb hg_ hat_); clear ho hb hg_ hat_))
     go_roundg k1
     case measure => have := HK1.out; omega
     case rel => exact ⟨(wrap64 (i + 1)), (tt ++ [j2]), Qc0_, H', ⟨Qs0_⟩, HI2⟩
    ·rw [if_neg d1] at H
     obtain rfl := Option.some.inj H
     have d1b0 : decide (i < (xs.length : Int)) = false := decide_eq_false d1
     clear d1
     have h := HH.out
     cases t4 with
     | false =>
      replace h : some ((⟨#[]⟩ : ByteArray), false) = some (r1, r2) := h
      simp only [Option.some.injEq, Prod.mk.injEq] at h
      obtain ⟨rfl, rfl⟩ := h
      go_wp2_with (first | ((with_reducible refine gate_builtin (b := .append) (xs := #[.tmp 75, .tmp 80]) rfl ?_); at_builtin; refine Kd.R_append (Kd.int .i64) (w0 := w) w.heap.size rfl (.tmp 75) (.tmp 80) 29 2 (.int .i64 0) 8 rfl Tryz.underlying29 info2 rfl (by decide) (by omega) u11 tt jl [.int .i64 jl] (fun _ => True) (fun _ => False) rfl rfl ?aP (fun _ hk => hk.elim) (fun _ _ => trivial) ?aO ?aB ?aS ?aL ?_; (case aP => exact rfl); (case aB => exact HI.out.1); (case aO => exact HI.out.2.2.1); (case aS => exact HI.out.1.size); (case aL => have := HTS.out; omega); intro v81 w81 ho hb hg_ hat_; rw [← HY.out] at ho; have HI2 := Aside0.mk (HI.out.times ho hb hg_ hat_); clear ho hb hg_ hat_; obtain ⟨At, ct, et⟩ := Kd.R_slice HI2.out.2.2.1; subst et) | (go_at_call 133; (with_reducible refine (impl_isIncreasing.calls k At ct yt false _ ?s1 ?s2 A6_.out).mono ?_); (case s1 => exact (Kd.R_reads' HI2.out.2.2.1).2.2); (case s2 => exact (Kd.R_reads' HI2.out.2.2.1).2.1); rintro e w9 ⟨rfl, ⟨nd9, rfl⟩⟩))
      go_ret2
      exact ⟨Qc0_, pw_below_drewN HI2.out.1 _⟩
     | true =>
     rw [if_pos rfl] at h
     obtain ⟨o, A7, h⟩ := Option.bind_eq_some_iff.mp h
     have A7_ := Aside0.mk A7
     clear A7
     simp only [Option.some.injEq, Prod.mk.injEq] at h
     obtain ⟨rfl, rfl⟩ := h
     go_wp2_with (first | ((with_reducible refine gate_builtin (b := .append) (xs := #[.tmp 75, .tmp 80]) rfl ?_); at_builtin; refine Kd.R_append (Kd.int .i64) (w0 := w) w.heap.size rfl (.tmp 75) (.tmp 80) 29 2 (.int .i64 0) 8 rfl Tryz.underlying29 info2 rfl (by decide) (by omega) u11 tt jl [.int .i64 jl] (fun _ => True) (fun _ => False) rfl rfl ?aP (fun _ hk => hk.elim) (fun _ _ => trivial) ?aO ?aB ?aS ?aL ?_; (case aP => exact rfl); (case aB => exact HI.out.1); (case aO => exact HI.out.2.2.1); (case aS => exact HI.out.1.size); (case aL => have := HTS.out; omega); intro v81 w81 ho hb hg_ hat_; rw [← HY.out] at ho; have HI2 := Aside0.mk (HI.out.times ho hb hg_ hat_); clear ho hb hg_ hat_; obtain ⟨At, ct, et⟩ := Kd.R_slice HI2.out.2.2.1; subst et) | (go_at_call 133; (with_reducible refine (impl_isIncreasing.calls k At ct yt true _ ?s1 ?s2 A6_.out).mono ?_); (case s1 => exact (Kd.R_reads' HI2.out.2.2.1).2.2); (case s2 => exact (Kd.R_reads' HI2.out.2.2.1).2.1); rintro e w9 ⟨rfl, ⟨nd9, hw9⟩⟩; have HI3 := Aside0.mk (show RbI w w9 _ _ _ _ from by rw [hw9]; exact HI2.out.below (pw_below_drewN (Below.refl _ _) _)); clear hw9))
     have HF := Aside0.mk (Lib.fresh_isBuilder 70 5 w9)
     have HQ := Aside0.mk ((Below.refl _ w9).alloc (Nat.le_refl _) (.cells #[.pointer none, .slice none 0 0] 70))
     have HE9 := Aside0.mk (Kd.R_reads' HI3.out.2.1).2.2
     have HT9 := Aside0.mk (Kd.R_reads' HI3.out.2.2.1).2.2
     have HB9 := Aside0.mk HI3.out.1
     clear HI HI2 HI3
     go_loopg [88] k (fun kq v88 w' => ∃ (i_ : Int) (o1 : ByteArray), v88 = .int .i64 i_ ∧ Aside0 (impl_ReceiveBits.l1 kq a0 xs yt a2 i_ o1 = some o) ∧ Aside0 (kq ≤ k) ∧ Aside0 (Lib.IsBuilder 70 5 w9.heap.size w9.heap.size (Lib.byteCells o1.data.toList) w') ∧ Aside0 (Below w9.heap.size w9 w'))
     case atStart => exact ⟨0, (⟨#[]⟩ : ByteArray), Qc0_, A7_, ⟨Nat.le_refl _⟩, ⟨HF.out⟩, HQ⟩
     case round =>
      clear HF HQ HK1 A5_ A6_ A7_ HH d1b0 hjl hjlw
      try clear hx0
      obtain ⟨i_, o1, rfl, HA, HK1, HO, HB⟩ := hrel
      cases gk with
      | zero => exact absurd HA.out (by simp [impl_ReceiveBits.l1])
      | succ k2 =>
       have H := HA.out
       clear HA
       simp only [impl_ReceiveBits.l1] at H
       by_cases f1 : i_ < (xs.length : Int)
       rotate_left
       ·rw [if_neg f1] at H
        obtain rfl := Option.some.inj H
        have f1b0 : decide (i_ < (xs.length : Int)) = false := decide_eq_false f1
        clear f1
        go_wp2_with (first | (go_at_call 50; refine (Tryz.Builder_String_any w9.heap.size w9.heap.size o1.data.toList _ ?s1 ?s2).mono ?_; (case s1 => exact HO.out); (case s2 => exact HB.out.size); rintro e w12 ⟨rfl, hb⟩; have n0_ := Aside0.mk (HB.out.trans hb); clear HB; have HB := n0_; clear n0_ hb))
        go_ret2
        exact ⟨Qc0_, below_step HB9.out HB.out⟩
       rw [if_pos f1] at H
       by_cases f2 : 0 ≤ i_
       rotate_left
       ·rw [if_neg f2] at H
        exact absurd H (by simp)
       rw [if_pos f2] at H
       by_cases f3 : i_ < (yt.length : Int)
       rotate_left
       ·rw [if_neg f3] at H
        exact absurd H (by simp)
       rw [if_pos f3] at H
       obtain ⟨o2, A8, H⟩ := Option.bind_eq_some_iff.mp H
       have f1b0 : decide (i_ < (xs.length : Int)) = true := decide_eq_true f1
       obtain ⟨ad1, e1, hx1⟩ := Kd.at_int (Kd.C_below HE9.out HB.out) i_ f2 f1
       cases e1
       obtain ⟨ad2, e2, hx2⟩ := Kd.at_int (Kd.C_below HT9.out HB.out) i_ f2 f3
       cases e2
       have p1 := eq_true f2
       have q1 := eq_true f1
       have q2 := eq_true f3
       clear f1 f2 f3
       obtain ⟨e_, he_⟩ : ∃ x : Int, x = rd xs i_ := ⟨_, rfl⟩
       rw [← he_] at A8 hx1
       clear he_
       obtain ⟨j1, hj1⟩ : ∃ j_ : Int, wrap64 (2 * (rd yt i_)) = j_ := ⟨_, rfl⟩
       rw [hj1] at A8
       have hj1w : IntKind.i64.wrap (2 * (rd yt i_)) = j1 := (i64_w _).trans hj1
       obtain ⟨j2, hj2⟩ : ∃ j_ : Int, wrap64 (j1 + a2) = j_ := ⟨_, rfl⟩
       rw [hj2] at A8
       have hj2w : IntKind.i64.wrap (j1 + a2) = j2 := (i64_w _).trans hj2
       have A8_ := Aside0.mk A8
       have H' := Aside0.mk H
       clear H A8
       go_wp2
       go_loopg [17] k2 (fun kq v17 w' => ∃ (tw : Int) (o3 : ByteArray), v17 = .int .i64 tw ∧ Aside0 (impl_ReceiveBits.l2 kq a0 yt a2 e_ i_ tw o3 = some o2) ∧ Aside0 (kq ≤ k2) ∧ Aside0 (Lib.IsBuilder 70 5 w9.heap.size w9.heap.size (Lib.byteCells o3.data.toList) w') ∧ Aside0 (Below w9.heap.size w9 w'))
       case atStart => exact ⟨j2, o1, Qc0_, A8_, ⟨Nat.le_refl _⟩, ⟨HO.out⟩, HB⟩
       case round =>
        clear A8_ hx1 hx2 HO HB hj1 hj1w hj2 hj2w f1b0 q1 q2
        obtain ⟨tw, o3, rfl, HA, HK2, HO, HB⟩ := hrel
        cases gk with
        | zero => exact absurd HA.out (by simp [impl_ReceiveBits.l2])
        | succ k3 =>
         have H := HA.out
         clear HA
         simp only [impl_ReceiveBits.l2] at H
         obtain ⟨ip, hip⟩ : ∃ j_ : Int, wrap64 (i_ + 1) = j_ := ⟨_, rfl⟩
         rw [hip] at H
         have hipw : IntKind.i64.wrap (i_ + 1) = ip := (i64_w _).trans hip
         by_cases g1 : 0 ≤ ip
         rotate_left
         ·rw [if_neg g1] at H
          exact absurd H (by simp)
         rw [if_pos g1] at H
         by_cases g2 : ip < (yt.length : Int)
         rotate_left
         ·rw [if_neg g2] at H
          exact absurd H (by simp)
         rw [if_pos g2] at H
         obtain ⟨ad3, e3, hx3⟩ := Kd.at_int (Kd.C_below HT9.out HB.out) ip g1 g2
         obtain rfl : ad2 = ad3 := (by injection e3)
         clear e3
         have p3 := eq_true g1
         have q3 := eq_true g2
         clear g1 g2
         obtain ⟨j3, hj3⟩ : ∃ j_ : Int, wrap64 (2 * (rd yt ip)) = j_ := ⟨_, rfl⟩
         rw [hj3] at H
         have hj3w : IntKind.i64.wrap (2 * (rd yt ip)) = j3 := (i64_w _).trans hj3
         by_cases g3 : tw < j3
         ·rw [if_pos g3] at H
          have g3b0 : decide (tw < j3) = true := decide_eq_true g3
          clear g3
          by_cases g4 : 0 ≤ e_
          rotate_left
          ·rw [if_neg g4] at H
           exact absurd H (by simp)
          rw [if_pos g4] at H
          by_cases g5 : e_ < (a0.size : Int)
          rotate_left
          ·rw [if_neg g5] at H
           exact absurd H (by simp)
          rw [if_pos g5] at H
          by_cases g6 : o3.size < 100000
          rotate_left
          ·rw [if_neg g6] at H
           exact absurd H (by simp)
          rw [if_pos g6] at H
          have HG := Aside0.mk (And.intro g4 (And.intro g5 g6))
          have p4 := eq_true g4
          have q4 := eq_true g5
          have hx4 := bt_at a0 e_
          clear g4 g5 g6
          obtain ⟨j4, hj4⟩ : ∃ j_ : Int, wrap64 (2 * a2) = j_ := ⟨_, rfl⟩
          rw [hj4] at H
          have hj4w : IntKind.i64.wrap (2 * a2) = j4 := (i64_w _).trans hj4
          obtain ⟨j5, hj5⟩ : ∃ j_ : Int, wrap64 (tw + j4) = j_ := ⟨_, rfl⟩
          rw [hj5] at H
          have hj5w : IntKind.i64.wrap (tw + j4) = j5 := (i64_w _).trans hj5
          have H'' := Aside0.mk H
          clear H
          go_wp2_with (first | (go_at_call 134; refine (Tryz.Builder_WriteByte w9.heap.size w9.heap.size (Lib.byteCells o3.data.toList) (bt a0 e_) _ ?s1 ?s2 ?s3).mono ?_; (case s1 => exact HO.out); (case s2 => exact (by rw [rb_len]; have := HG.out.2.2; omega)); (case s3 => exact HB.out.size); rintro e w13 ⟨rfl, hbu, hb⟩; have n0_ := Aside0.mk (HB.out.trans hb); have n1_ := Aside0.mk hbu; clear HB HO; have HB := n0_; have HO := n1_; clear n0_ n1_ hbu hb))
          go_roundg k3
          case measure => have := HK2.out; omega
          case rel => exact ⟨j5, _, Qc0_, H'', ⟨by have := HK2.out; omega⟩, ⟨by rw [← rb_cells _ _ _ HG.out.1 HG.out.2.1]; exact Or.inr HO.out⟩, HB⟩
         ·rw [if_neg g3] at H
          obtain rfl := Option.some.inj H
          have g3b0 : decide (tw < j3) = false := decide_eq_false g3
          clear g3
          go_wp2
          go_roundg k2
          case measure => have := HK1.out; omega
          case rel => exact ⟨(wrap64 (i_ + 1)), o3, Qc0_, H', ⟨Qs0_⟩, ⟨HO.out⟩, HB⟩
end Go.Proofs.YtdnjebnmianogaaGreatDoor.QFnTop
