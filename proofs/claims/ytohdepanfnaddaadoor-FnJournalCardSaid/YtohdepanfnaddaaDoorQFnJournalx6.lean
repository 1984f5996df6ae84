/- FnJournal: functions that it reaches, with what they compute and the proof that they do; written by a program of this session (wip/myprint.py). -/
import Derived.Test.YtohdepanfnaddaaDoorQFnJournalx0
import Derived.Test.YtohdepanfnaddaaDoorQFnJournalx1
import Derived.Test.YtohdepanfnaddaaDoorQFnJournalx2
import Derived.Test.YtohdepanfnaddaaDoorQFnJournalx5
namespace Go.Proofs.YtohdepanfnaddaaDoor.QFnJournal
open Go.RowKit Go.Proofs.YtohdepanfnaddaaDoorW.PrintWords Go.Proofs.YtohdepanfnaddaaDoorW.PrintLast Go.Proofs.YtohdepanfnaddaaDoorW.PrintMore
attribute [local go_sem] max2_int min2_int max_two min_two max_three min_three max_four min_four   -- for this text's walks alone
set_option linter.unusedVariables false
set_option linter.unusedSimpArgs false

/-! ### spec_B10Lines: function 30 -/
def spec_B10Lines.l0 : Nat → List Int → List ByteArray → List ByteArray → Int → Int → Int → Option (List ByteArray)
 | 0, _, _, _, _, _, _ => none
 | k + 1, code, ns, out, i, s1, s2 => if i > 0 then ((spec_l11DrawLine.f k code s1 s2 ns).bind fun bt => (if out.length < 8796093022208 then (spec_B10Lines.l0 k code ns (out ++ [bt.1]) (wrap64 (i - 1)) bt.2.1 bt.2.2) else (none))) else (some out)
theorem spec_B10Lines.mono_l : ∀ k, (∀ y0 y1 y2 y3 y4 y5, LeO (spec_B10Lines.l0 k y0 y1 y2 y3 y4 y5) (spec_B10Lines.l0 (k + 1) y0 y1 y2 y3 y4 y5))
 | 0 => fun _ _ _ _ _ _ r h => by simp [spec_B10Lines.l0] at h
 | k + 1 => by
  have ih0 := spec_B10Lines.mono_l k
  intro y0 y1 y2 y3 y4 y5
  unfold spec_B10Lines.l0
  repeat' first
   | (with_reducible exact ih0 _ _ _ _ _ _)
   | (with_reducible exact spec_l11DrawLine.mono _ _ _ _ _)
   | (with_reducible exact LeO.refl _)
   | (with_reducible exact LeO.none _)
   | (with_reducible refine LeO.ite ?_ ?_)
   | (with_reducible refine LeO.bind ?_ (fun _ => ?_))
def spec_B10Lines.f (k : Nat) (l0 : List Int) (ns _ls : List ByteArray) : Option (List ByteArray) := (spec_l00From.f l0).bind fun bt => ((spec_l00Src_pick.f bt.1 bt.2.1 bt.2.2 7).bind fun b2 => (spec_B10Lines.l0 k bt.1 ns [] b2.1 b2.2.1 b2.2.2))
theorem spec_B10Lines.mono : ∀ a0 a1 a2 k, LeO (spec_B10Lines.f k a0 a1 a2) (spec_B10Lines.f (k + 1) a0 a1 a2) := by
 intro a0 a1 a2 k
 unfold spec_B10Lines.f
 exact LeO.bind (LeO.refl _) (fun _ => LeO.bind (LeO.refl _) (fun _ => spec_B10Lines.mono_l k _ _ _ _ _ _))
/-- What is known while lines are drawn: the source, the console's cells, the lines so far. -/
def BlInv (w : World) (g b : Nat) (cs : Array Value) (w' : World) (s0 : List Int) (s1 s2 : Int) (v : Value) (out : List ByteArray) : Prop :=
 IsS110 w w' g s0 s1 s2 ∧ w'.heap[b]? = some (.cells cs 27 (0, 0)) ∧ Kd.R Kd.string 9 w' w.heap.size (fun _ => True) v out ∧ Below w.heap.size w w'
theorem BlInv.below {w : World} {g b : Nat} {cs : Array Value} {w1 w2 : World} {s0 : List Int} {s1 s2 : Int} {v : Value} {out : List ByteArray} (h : BlInv w g b cs w1 s0 s1 s2 v out) (hb : Below w1.heap.size w1 w2) : BlInv w g b cs w2 s0 s1 s2 v out := by
 obtain ⟨h1, h2, h3, h4⟩ := h
 exact ⟨h1.below hb, (hb.block b (blk_lt h2)).trans h2, str_row h3 (fun k e => hb.block k (str_lt h3 k e)), below_step h4 hb⟩
theorem bl_ne {w0 w : World} {g b2 : Nat} {s0 : List Int} {s1 s2 : Int} {cs : Array Value} (hi : IsS110 w0 w g s0 s1 s2) (h : w.heap[b2]? = some (.cells cs 27 (0, 0))) : b2 ≠ g := by
 obtain ⟨A0, c0, i1, i2, i3⟩ := hi
 intro e
 rw [e, i1] at h
 injection h with h
 injection h with _ h6 _
 exact absurd h6 (by decide)
theorem BlInv.state {w : World} {g b : Nat} {cs : Array Value} {w1 w2 : World} {s0 : List Int} {s1 s2 t1 t2 : Int} {v : Value} {out : List ByteArray} (h : BlInv w g b cs w1 s0 s1 s2 v out) (hi : IsS110 w w2 g s0 t1 t2) (hb : Below w.heap.size w w2) (hk : KeepBut w1 w2 g none) : BlInv w g b cs w2 s0 t1 t2 v out := by
 obtain ⟨h1, h2, h3, h4⟩ := h
 have hbg := bl_ne h1 h2
 obtain ⟨A0, c0, i1, i2, i3⟩ := h1
 exact ⟨hi, (hk.2 b (blk_lt h2) hbg (by simp)).trans h2, str_row h3 (fun k e => hk.2 k (str_lt h3 k e) (fun e2 => str_ne h3 i1 (by decide) (e.trans (by rw [e2]))) (by simp)), hb⟩
theorem BlInv.app {w : World} {g b : Nat} {cs : Array Value} {w1 w2 : World} {s0 : List Int} {s1 s2 : Int} {v u : Value} {out out2 : List ByteArray} (h : BlInv w g b cs w1 s0 s1 s2 v out) (hr : Kd.R Kd.string 9 w2 w.heap.size (fun _ => True) u out2) (hb : Below w.heap.size w w2) (hg : w1.grownBy w2 v.ownBlock) : BlInv w g b cs w2 s0 s1 s2 u out2 := by
 obtain ⟨h1, h2, h3, h4⟩ := h
 obtain ⟨A0, c0, i1, i2, i3⟩ := h1
 exact ⟨⟨A0, c0, (hg.block g (blk_lt i1) (fun e => str_ne h3 i1 (by decide) e.symm)).trans i1, i2, i3⟩, (hg.block b (blk_lt h2) (fun e => str_ne h3 h2 (by decide) e.symm)).trans h2, hr, hb⟩
theorem bl_far {w w1 : World} {g : Nat} {A : Option Addr} {xs : List ByteArray} {s0 : List Int} {s1 s2 : Int} (hr : Kd.C Kd.string w A xs.length xs) (hi : IsS110 w w1 g s0 s1 s2) : ∀ ad, A = some ad → 0 < xs.length → ad.block ≠ g := by
 intro ad e h0 e2
 subst e
 obtain ⟨ad', e', hx⟩ := Kd.at_string hr 0 (by decide) (by omega)
 injection e' with e'
 subst e'
 have h1 : ad.block < w.heap.size := World.block_lt_of_cell? w _ hx
 have h2 := IsS110.ge hi
 omega
set_option maxHeartbeats 8000000 in
set_option maxRecDepth 100000 in
theorem spec_B10Lines.calls (k : Nat) (A0 : Option Addr) (c0 : Nat) (l0 : List Int) (A1 : Option Addr) (c1 : Nat) (l1 : List ByteArray) (A9 : Option Addr) (c9 : Nat) (l9 : List ByteArray) (r : List ByteArray) (w : World) (hr0 : Kd.C (Kd.int .u8) w A0 l0.length l0) (hc0 : l0.length ≤ c0) (hr1 : Kd.C Kd.string w A1 l1.length l1) (hc1 : l1.length ≤ c1) (_hr9 : Kd.C Kd.string w A9 l9.length l9) (_hc9 : l9.length ≤ c9) (h : spec_B10Lines.f k l0 l1 l9 = some r) :
 Calls Tryd.prog 30 #[.slice A0 l0.length c0, .agg #[.slice A1 l1.length c1, .slice A9 l9.length c9]] w fun e w' => ∃ v : Value, e = .returned v ∧ Kd.R Kd.string 9 w' w.heap.size (fun _ => True) v r ∧ Below w.heap.size w w' := by
 have hu27 := Tryd.underlying27
 have HR0 := Aside0.mk hr0
 have HC0 := Aside0.mk hc0
 have HR1 := Aside0.mk hr1
 have HC1 := Aside0.mk hc1
 clear hr0 hc0 hr1 hc1
 obtain ⟨⟨t1, t2, t3⟩, A2, H⟩ := Option.bind_eq_some_iff.mp h
 obtain ⟨⟨t4, t5, t6⟩, A3, H⟩ := Option.bind_eq_some_iff.mp H
 have A2 := Aside0.mk A2
 have A3 := Aside0.mk (show spec_l00Src_pick.f t1 t2 t3 7 = some (t4, t5, t6) from A3)
 have H' := Aside0.mk (show spec_B10Lines.l0 k t1 l1 [] t4 t5 t6 = some r from H)
 clear h H
 have HB0 := Aside0.mk (Below.refl w.heap.size w)
 go_enter Tryd.func30, Tryd.ntmps30
 go_wp2_with (first | (go_at_call 57; (with_reducible refine (spec_l00From.calls A0 c0 l0 t1 t2 t3 w _ ?side1 ?side2 ?side3 A2.out).mono ?_); (case side1 => exact (by repeat (first | (with_reducible first | exact HB0.out | apply below_alloc | apply pw_below_drewN | apply below_drew1) | exact HB0.out))); (case side2 => exact HR0.out); (case side3 => exact HC0.out); rintro e w9 ⟨g, rfl, hi, hb, hb2⟩; have HI := Aside0.mk hi; have HB := Aside0.mk hb; have HB2 := Aside0.mk ((hb2.block w.heap.size (by first | exact Nat.lt_of_lt_of_eq (Nat.lt_succ_self _) (Array.size_push _).symm | (simp; done))).trans (heap_alloc_new w _)); clear hi hb hb2) | ((with_reducible refine gate_dst (N := 10) rfl ?_); refine Kd.R_lit Kd.string _ 9 ?hg (N := 10) ?hd (xs := ([] : List ByteArray)) (inner := []) (ok := fun _ => True) (okp := fun _ => True) ?hr ?hp (fun _ hk => hk) trivial (Below.refl _ _) (Nat.le_refl _) (by simp) ?_; (case hd => rfl); (case hg => rfl); (case hr => first | (go_simp; done) | (go_simp; rfl)); (case hp => exact (Reps.none _ _)); intro v10 w10 ho hb hg_ hnew_; clear hg_ hnew_; have HD := Aside0.mk (show BlInv w g w.heap.size _ w10 t1 t2 t3 v10 [] from ⟨IsS110.below HI.out hb, (hb.block w.heap.size (blk_lt HB2.out)).trans HB2.out, Kd.R_lower ho (below_size HB.out), below_step HB.out hb⟩); clear HI HB HB2 hb ho) | ((with_reducible refine gate_callee (f := 58) rfl ?_); refine goesL_ (some 12) rfl rfl Tryd.func58 (by kernel_rfl) rfl #[.pointer (some ⟨g, 0, none⟩), .int .i64 7] rfl (by (try simp only [List.map_toArray, List.map_cons, List.map_nil]); first | done | rfl) ?_; (with_reducible refine (spec_l00Src_pick.calls g t1 t2 t3 7 t4 t5 t6 w _ ?side1 ?side2 A3.out).mono ?_); (case side1 => repeat (first | exact HD.out.1 | (with_reducible first | apply IsS110.alloc | apply IsS110.drewN | apply IsS110.drew))); (case side2 => exact (by repeat (first | (with_reducible first | exact HD.out.2.2.2 | apply below_alloc | apply pw_below_drewN | apply below_drew1) | exact HD.out.2.2.2))); rintro e w12 ⟨rfl, hi, hb, hk⟩; refine ⟨_, rfl, ?_⟩; have n0_ := Aside0.mk (BlInv.state HD.out hi hb hk); clear HD hi hb hk; have HD := n0_; clear n0_))
 obtain ⟨b, hb⟩ : ∃ x : Nat, x = w.heap.size := ⟨_, rfl⟩
 rw [show BlInv w g w.heap.size = BlInv w g b from by rw [hb]] at HD
 rw [show (Value.pointer (some ⟨w.heap.size, 0, none⟩)) = .pointer (some ⟨b, 0, none⟩) from by rw [hb]]
 clear hb
 go_loopg [6, 7] k (fun kq v6 v7 w' => ∃ (out : List ByteArray) (i s1 s2 : Int), v7 = .int .i64 i ∧ Aside0 (spec_B10Lines.l0 kq t1 l1 out i s1 s2 = some r) ∧ Aside0 (kq ≤ k) ∧ Aside0 (BlInv w g b #[.slice A1 l1.length c1, .slice A9 l9.length c9] w' t1 s1 s2 v6 out))
 case atStart => exact ⟨[], t4, t5, t6, (by first | rfl | (simp; done) | (simp [*]; done)), H', ⟨Nat.le_refl _⟩, HD⟩
 case round =>
  clear H' HD A2 A3
  obtain ⟨out, i, s1, s2, rfl, HA, HK1, HD⟩ := hrel
  cases gk with
  | zero => exact absurd HA.out (by simp [spec_B10Lines.l0])
  | succ k1 =>
   have H := HA.out
   clear HA
   simp only [spec_B10Lines.l0] at H
   by_cases c1_ : i > 0
   ·rw [if_pos c1_] at H
    have c1b0 : decide (0 < i) = true := decide_eq_true c1_
    clear c1_
    obtain ⟨⟨t7, t8, t9⟩, A4, H⟩ := Option.bind_eq_some_iff.mp H
    by_cases c2_ : out.length < 8796093022208
    ·rw [if_pos c2_] at H
     have HLN := Aside0.mk c2_
     clear c2_
     have A4 := Aside0.mk A4
     have H' := Aside0.mk (show spec_B10Lines.l0 k1 t1 l1 (out ++ [t7]) (wrap64 (i - 1)) t8 t9 = some r from H)
     clear H
     go_wp2_with (first | ((with_reducible refine gate_callee (f := 59) rfl ?_); refine goesL_ (some 19) rfl rfl Tryd.func59 (by kernel_rfl) rfl #[.pointer (some ⟨g, 0, none⟩), .pointer (some ⟨b, 0, none⟩)] rfl (by (try simp only [List.map_toArray, List.map_cons, List.map_nil]); first | done | rfl) ?_; (with_reducible refine (spec_l11DrawLine.calls k1 g t1 s1 s2 b A1 c1 l1 t7 t8 t9 w _ ?side1 ?side2 ?side3 ?side4 ?side5 ?side6 ?side7 A4.out).mono ?_); (case side1 => repeat (first | exact HD.out.1 | (with_reducible first | apply IsS110.alloc | apply IsS110.drewN | apply IsS110.drew))); (case side2 => exact (by repeat (first | (with_reducible first | exact HD.out.2.2.2 | apply below_alloc | apply pw_below_drewN | apply below_drew1) | exact HD.out.2.2.2))); (case side3 => exact Kd.C_below HR1.out (by repeat (first | (with_reducible first | exact HD.out.2.2.2 | apply below_alloc | apply pw_below_drewN | apply below_drew1) | exact HD.out.2.2.2))); (case side4 => exact HC1.out); (case side5 => exact bl_far HR1.out HD.out.1); (case side6 => exact (blk_cell HD.out.2.1 0).trans rfl); (case side7 => exact bl_ne HD.out.1 HD.out.2.1); rintro e w19 ⟨rfl, hi, hb, hk⟩; refine ⟨_, rfl, ?_⟩; have n0_ := Aside0.mk (BlInv.state HD.out hi hb hk); clear HD hi hb hk; have HD := n0_; clear n0_) | ((with_reducible refine gate_builtin (b := .append) (xs := #[.tmp 17, .tmp 20]) rfl ?_); at_builtin; refine Kd.R_append Kd.string (w0 := w) w.heap.size rfl (.tmp 17) (.tmp 20) 22 9 (.string ⟨#[]⟩) 16 rfl Tryd.underlying22 info9 rfl (by decide) (by omega) u6 out t7 [.string t7] (fun _ => True) (fun _ => False) rfl rfl ?aP (fun _ hk => hk.elim) (fun _ _ => trivial) ?aO ?aB ?aS ?aL ?_; (case aP => exact rfl); (case aB => exact (by repeat (first | (with_reducible first | exact HD.out.2.2.2 | apply below_alloc | apply pw_below_drewN | apply below_drew1) | exact HD.out.2.2.2))); (case aO => exact (by (with_reducible repeat (first | apply Kd.R_alloc | apply Kd.R_drewN | apply Kd.R_drew)); exact HD.out.2.2.1)); (case aS => exact (below_size (by repeat (first | (with_reducible first | exact HD.out.2.2.2 | apply below_alloc | apply pw_below_drewN | apply below_drew1) | exact HD.out.2.2.2)))); (case aL => exact (by have := HLN.out; omega)); intro v21 w21 ho hb hg_ hat_; have n0_ := Aside0.mk (BlInv.app HD.out ho hb hg_); clear HD ho hb hg_ hat_; have HD := n0_; clear n0_))
     go_roundg k1
     case measure => have := HK1.out; omega
     case rel => exact ⟨out ++ [t7], wrap64 (i - 1), t8, t9, (by first | rfl | (simp; done) | (simp [*]; done)), H', ⟨by have := HK1.out; omega⟩, HD⟩
    ·rw [if_neg c2_] at H
     exact absurd H (by simp)
   ·rw [if_neg c1_] at H
    have c1b0 : decide (0 < i) = false := decide_eq_false c1_
    clear c1_
    simp only [Option.some.injEq] at H
    subst H
    go_wp2
    go_ret
    exact ⟨_, rfl, HD.out.2.2.1, HD.out.2.2.2⟩

/-! ### laws_b10At: function 32 -/
def laws_b10At.f (l0 : List Int) (a1 : Int) (a2 : Int) : Option (Int) := if a2 ≤ 1 then (some 0) else (if a1 < (l0.length : Int) then (if 0 ≤ a1 then (if a2 = 0 then (none) else (some (Int.tmod (wrap64 (rd l0 a1)) a2))) else (none)) else (if a2 = 0 then (none) else (some (Int.tmod (wrap64 ((wrap64 (a1 * 37)) + 11)) a2))))
set_option maxHeartbeats 8000000 in
set_option maxRecDepth 100000 in
theorem laws_b10At.calls (A0 : Option Addr) (c0 : Nat) (l0 : List Int) (a1 : Int) (a2 : Int) (r : Int) (w : World) (hr0 : Kd.C (Kd.int .u8) w A0 l0.length l0) (hc0 : l0.length ≤ c0) (h : laws_b10At.f l0 a1 a2 = some r) :
 Calls Tryd.prog 32 #[.slice A0 l0.length c0, .int .i64 a1, .int .i64 a2] w fun e w' => e = .returned (.int .i64 r) ∧ Drawn0 w w' := by
 have HR0 := Aside0.mk hr0
 have HC0 := Aside0.mk hc0
 clear hr0 hc0
 have H : (if a2 ≤ 1 then (some 0) else (if a1 < (l0.length : Int) then (if 0 ≤ a1 then (if a2 = 0 then (none) else (some (Int.tmod (wrap64 (rd l0 a1)) a2))) else (none)) else (if a2 = 0 then (none) else (some (Int.tmod (wrap64 ((wrap64 (a1 * 37)) + 11)) a2))))) = some r := h
 clear h
 by_cases c4 : a2 ≤ 1
 ·rw [if_pos c4] at H
  have c4b0 : decide (a2 ≤ 1) = true := decide_eq_true c4
  clear c4
  obtain rfl := Option.some.inj H
  go_enter Tryd.func32, Tryd.ntmps32
  go_wp2
  go_ret
  exact ⟨by first | rfl | (simp; done) | (simp [*]; done), by repeat (first | exact Drawn0.refl _ | apply Drawn0.step)⟩
 ·rw [if_neg c4] at H
  have c4b0 : decide (a2 ≤ 1) = false := decide_eq_false c4
  clear c4
  by_cases c5 : a1 < (l0.length : Int)
  ·rw [if_pos c5] at H
   have c5b0 : decide (a1 < (l0.length : Int)) = true := decide_eq_true c5
   clear c5
   by_cases c6 : 0 ≤ a1
   ·rw [if_pos c6] at H
    have c6b0 : decide (0 ≤ a1) = true := decide_eq_true c6
    clear c6
    by_cases c7 : a2 = 0
    ·rw [if_pos c7] at H
     exact absurd H (by simp)
    ·rw [if_neg c7] at H
     have c7b0 : (a2 == 0) = false := beq_eq_false_iff_ne.mpr c7
     have c7b1 : (a2 != 0) = true := bne_iff_ne.mpr c7
     obtain rfl := Option.some.inj H
     have p288 : 0 ≤ (a1 : Int) := of_decide_eq_true (by first | (with_reducible assumption) | assumption)
     have q288 : a1 < (l0.length : Int) := of_decide_eq_true (by first | (with_reducible assumption) | assumption)
     obtain ⟨ad288, e288, hx288_0⟩ := Kd.at_int HR0.out a1 p288 q288
     cases e288
     replace p288 := eq_true p288
     replace q288 := eq_true q288
     go_enter Tryd.func32, Tryd.ntmps32
     go_wp2
     go_ret
     exact ⟨by first | rfl | (simp; done) | (simp [*]; done), by repeat (first | exact Drawn0.refl _ | apply Drawn0.step)⟩
   ·rw [if_neg c6] at H
    exact absurd H (by simp)
  ·rw [if_neg c5] at H
   have c5b0 : decide (a1 < (l0.length : Int)) = false := decide_eq_false c5
   clear c5
   by_cases c8 : a2 = 0
   ·rw [if_pos c8] at H
    exact absurd H (by simp)
   ·rw [if_neg c8] at H
    have c8b0 : (a2 == 0) = false := beq_eq_false_iff_ne.mpr c8
    have c8b1 : (a2 != 0) = true := bne_iff_ne.mpr c8
    obtain rfl := Option.some.inj H
    go_enter Tryd.func32, Tryd.ntmps32
    go_wp2
    go_ret
    exact ⟨by first | rfl | (simp; done) | (simp [*]; done), by repeat (first | exact Drawn0.refl _ | apply Drawn0.step)⟩

end Go.Proofs.YtohdepanfnaddaaDoor.QFnJournal
