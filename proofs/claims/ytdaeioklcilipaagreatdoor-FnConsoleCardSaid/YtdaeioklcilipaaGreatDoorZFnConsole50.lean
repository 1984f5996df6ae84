/- Made small by wip/pack.py: lemmas and contracts that the law's row leans on. -/
import Derived.KernelRfl
import Derived.Tactics
namespace Go.Proofs
set_option linter.unusedVariables false
theorem Qr_ {p q : Prop} (h : q) (f : q → p := by (intro h_; (with_reducible repeat (first | apply Kd.R_alloc | apply Kd.R_drewN | apply Kd.R_drew)); exact h_)) : p := f h
theorem Qk_ {p q : Prop} (h : q) (f : q → p := by (intro h_; (with_reducible repeat (first | refine blk_drewN ?_ _ | refine blk_drew ?_ | refine blk_alloc ?_ _)); exact h_)) : p := f h
theorem Qg_ {p q : Prop} (h : q) (f : q → p := by (intro h_; repeat (first | (with_reducible first | exact HB.out | apply below_alloc | apply pw_below_drewN | apply below_drew1 | refine below_set ?_ h_) | exact HB.out))) : p := f h
theorem Qc_ {p q : Prop} (h : q) (f : q → p := by (intro h_; repeat (first | exact h_ | (with_reducible refine Kd.C_alloc ?_ _) | (with_reducible refine Kd.C_drewN ?_ _) | (with_reducible refine Kd.C_drew ?_)))) : p := f h
theorem Qa0_ {p : Prop} (h : p := by repeat (first | (with_reducible first | exact HB.out | apply below_alloc | apply pw_below_drewN | apply below_drew1) | exact HB.out)) : p := h
theorem Qb0_ {p : Prop} (h : p := by (try simp only [List.map_toArray, List.map_cons, List.map_nil]); first | done | rfl | (simp only [List.length_drop, List.length_take]; rfl)) : p := h
theorem Qc0_ {p : Prop} (h : p := by (try simp only [Int.add_zero]); repeat (first | (with_reducible first | exact HI0.out | apply IsS53.alloc | apply IsS53.drewN | apply IsS53.drew | apply IsS53.set_1 | apply IsS53.set_2) | exact HI0.out)) : p := h
theorem Qd0_ {p : Prop} (h : p := by repeat (first | (with_reducible first | exact HB.out | apply below_alloc | apply pw_below_drewN | apply below_drew1 | refine below_set ?_ (IsS53.ge HI0.out)) | exact HB.out)) : p := h
theorem Qe0_ {p : Prop} (h : p := by repeat (first | (with_reducible first | exact HK.out | apply KeepBut.set_ | apply keep_drewN | apply keep_drew | apply keep_alloc) | exact HK.out)) : p := h
theorem Qf0_ {p : Prop} (h : p := by first | rfl | (simp; done) | (simp [*]; done)) : p := h
theorem Qg0_ {p : Prop} (h : p := by first | (with_reducible assumption) | assumption) : p := h
theorem Qh0_ {p : Prop} (h : p := by first | rfl | (simp [errW_none, errW_some] <;> rfl) | (simp [*, errW_none, errW_some] <;> rfl)) : p := h
theorem Qi0_ {p : Prop} (h : p := by repeat (first | (with_reducible first | exact HI0.out | apply IsS53.alloc | apply IsS53.drewN | apply IsS53.drew | apply IsS53.set_1 | apply IsS53.set_2) | exact HI0.out)) : p := h
theorem Qj0_ {p : Prop} (h : p := by first | (go_simp; done) | (go_simp; rfl)) : p := h
theorem Qk0_ {p : Prop} (h : p := by repeat (first | exact Drawn0.refl _ | apply Drawn0.step)) : p := h
theorem Ql0_ {p : Prop} (h : p := by kernel_rfl) : p := h
theorem Qm0_ {p : Prop} (h : p := by repeat (first | exact Below.refl _ _ | apply below_drew1 | apply pw_below_drewN)) : p := h
theorem Qn0_ {p : Prop} (h : p := by repeat (first | exact Below.refl _ _ | apply below_drew1 | apply pw_below_drewN | apply below_alloc)) : p := h
theorem Qo0_ {p : Prop} (h : p := by repeat (first | (with_reducible first | exact HB.out | apply below_alloc | apply pw_below_drewN | apply below_drew1 | refine below_set ?_ GE319.out | refine below_set ?_ GE337.out) | exact HB.out)) : p := h
theorem Qp0_ {p : Prop} (h : p := by first | rfl | decide | (simp; done) | (simp [Value.oneCell']; done)) : p := h
theorem Qq0_ {p : Prop} (h : p := by repeat (first | (with_reducible first | exact H7.out | apply below_alloc | apply pw_below_drewN | apply below_drew1) | exact H7.out)) : p := h
theorem Qr0_ {p : Prop} (h : p := by simp only [ByteArray.size_append]; omega) : p := h
theorem Qs0_ {p : Prop} (h : p := by have := HK1.out; omega) : p := h
theorem Qt0_ {p : Prop} (h : p := by (with_reducible repeat (first | refine blk_drewN ?_ _ | refine blk_drew ?_ | refine blk_alloc ?_ _)); refine blk_put (cs := #[.int .i64 0, .int .i64 0, .slice none 0 0, .slice none 0 0]) ?_ 3 _ rfl; (with_reducible repeat (first | refine blk_drewN ?_ _ | refine blk_drew ?_ | refine blk_alloc ?_ _)); refine blk_put (cs := #[.int .i64 0, .int .i64 0, .slice none 0 0, .slice none 0 0]) ?_ 2 _ rfl; (with_reducible repeat (first | refine blk_drewN ?_ _ | refine blk_drew ?_ | refine blk_alloc ?_ _)); refine blk_put (cs := #[.int .i64 0, .int .i64 0, .slice none 0 0, .slice none 0 0]) ?_ 1 _ rfl; (with_reducible repeat (first | refine blk_drewN ?_ _ | refine blk_drew ?_ | refine blk_alloc ?_ _)); refine blk_put (cs := #[.int .i64 0, .int .i64 0, .slice none 0 0, .slice none 0 0]) ?_ 0 _ rfl; (with_reducible repeat (first | refine blk_drewN ?_ _ | refine blk_drew ?_ | refine blk_alloc ?_ _)); exact BK319.out) : p := h
theorem Qu0_ {p : Prop} (h : p := by repeat (first | (with_reducible first | exact HB.out | apply below_alloc | apply pw_below_drewN | apply below_drew1 | refine below_set ?_ GE276.out | refine below_set ?_ GE277.out) | exact HB.out)) : p := h
theorem Qv0_ {p : Prop} (h : p := by repeat (first | exact (Kd.C_below HR0_3.out HB.out) | (with_reducible refine Kd.C_alloc ?_ _) | (with_reducible refine Kd.C_drewN ?_ _) | (with_reducible refine Kd.C_drew ?_))) : p := h
theorem Qw0_ {p : Prop} (h : p := by first | exact Kd.R_nil _ _ _ _ _ | exact Kd.N_nil _ _ _ _ _ | exact Kd.V_nil _ _ _ _ _ | exact Kd.Q_nil _ _ _ _ _ | exact Kd.S_nil _ _ _ _ _) : p := h
theorem Qx0_ {p : Prop} (h : p := by first | omega | exact Nat.le_refl _) : p := h
theorem Qy0_ {p : Prop} (h : p := by repeat (first | (with_reducible first | exact HD.out.2.2.2 | apply below_alloc | apply pw_below_drewN | apply below_drew1) | exact HD.out.2.2.2)) : p := h
theorem Qz0_ {p : Prop} (h : p := by repeat (first | exact (Kd.C_below HR0_2.out (Qg_ GE351.out)) | (with_reducible refine Kd.C_alloc ?_ _) | (with_reducible refine Kd.C_drewN ?_ _) | (with_reducible refine Kd.C_drew ?_))) : p := h
theorem Qa1_ {p : Prop} (h : p := by repeat (first | exact Below.refl _ _ | exact HWE.out | apply below_drew1 | apply pw_below_drewN | apply below_alloc)) : p := h
theorem Qb1_ {p : Prop} (h : p := by first | rfl | decide | (simp; done) | (simp [Value.oneCell']; done) | exact ra_all HI.out) : p := h
theorem Qc1_ {p : Prop} (h : p := by (try simp only [List.map_toArray, List.map_cons, List.map_nil]); first | done | rfl) : p := h
theorem Qd1_ {p : Prop} (h : p := by repeat (first | (with_reducible first | exact HB3.out | apply below_alloc | apply pw_below_drewN | apply below_drew1) | exact HB3.out)) : p := h
theorem Qe1_ {p : Prop} (h : p := by repeat (first | exact HD.out.1 | (with_reducible first | apply IsS53.alloc | apply IsS53.drewN | apply IsS53.drew))) : p := h
theorem Qf1_ {p : Prop} (h : p := by rw [List.length_append, List.length_singleton]; omega) : p := h
theorem Qg1_ {p : Prop} (h : p := by repeat (first | exact Below.refl _ _ | exact HWG.out | apply below_drew1 | apply pw_below_drewN | apply below_alloc | refine Below.setCell (p := ⟨wg.heap.size, _, none⟩) ?_ (show wg.heap.size ≤ wg.heap.size from Nat.le_refl _) _ | refine Below.setCell (p := ⟨w2.heap.size, _, none⟩) ?_ HS2.out _)) : p := h
theorem Qh1_ {p : Prop} (h : p := by repeat (first | (with_reducible first | exact HD.out.2.2.2.2.1 | apply below_alloc | apply pw_below_drewN | apply below_drew1) | exact HD.out.2.2.2.2.1)) : p := h
theorem Qi1_ {p : Prop} (h : p := by have := HLN.out; simp; omega) : p := h
theorem Qj1_ {p : Prop} (h : p := by have := ra_blt BKgc.out; omega) : p := h
theorem Qk1_ {p : Prop} (h : p := by first | exact HT.out | exact tabBelow HT.out Qa0_) : p := h
theorem Ql1_ {p : Prop} (h : p := by rw [List.length_append]; simp; omega) : p := h
theorem Qm1_ {p : Prop} (h : p := by have := HB.out.size; omega) : p := h
theorem Qn1_ {p : Prop} (h : p := by repeat (first | (with_reducible first | exact HB4.out | apply below_alloc | apply pw_below_drewN | apply below_drew1) | exact HB4.out)) : p := h
theorem Qo1_ {p : Prop} (h : p := by (with_reducible repeat (first | refine blk_drewN ?_ _ | refine blk_drew ?_ | refine blk_alloc ?_ _)); refine blk_far ?_ NB319_337.out _; (with_reducible repeat (first | refine blk_drewN ?_ _ | refine blk_drew ?_ | refine blk_alloc ?_ _)); exact BK319.out) : p := h
end Go.Proofs
