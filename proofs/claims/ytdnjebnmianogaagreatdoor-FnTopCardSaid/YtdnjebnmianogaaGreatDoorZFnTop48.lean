/- Made small by wip/pack.py: lemmas and contracts that the law's row leans on. -/
import Derived.KernelRfl
import Derived.Tactics
namespace Go.Proofs
set_option linter.unusedVariables false
theorem Qr_ {p q : Prop} (h : q) (f : q → p := by (intro h_; (with_reducible repeat (first | apply Kd.R_alloc | apply Kd.R_drewN | apply Kd.R_drew)); exact h_)) : p := f h
theorem Qk_ {p q : Prop} (h : q) (f : q → p := by (intro h_; (with_reducible repeat (first | refine blk_drewN ?_ _ | refine blk_drew ?_ | refine blk_alloc ?_ _)); exact h_)) : p := f h
theorem Qg_ {p q : Prop} (h : q) (f : q → p := by (intro h_; repeat (first | (with_reducible first | exact HB.out | apply below_alloc | apply pw_below_drewN | apply below_drew1 | refine below_set ?_ h_) | exact HB.out))) : p := f h
theorem Qc_ {p q : Prop} (h : q) (f : q → p := by (intro h_; repeat (first | exact h_ | (with_reducible refine Kd.C_alloc ?_ _) | (with_reducible refine Kd.C_drewN ?_ _) | (with_reducible refine Kd.C_drew ?_)))) : p := f h
theorem Qa0_ {p : Prop} (h : p := by repeat (first | (with_reducible first | exact HB.out | apply below_alloc | apply pw_below_drewN | apply below_drew1) | exact HB.out)) : p := h
theorem Qb0_ {p : Prop} (h : p := by (try simp only [List.map_toArray, List.map_cons, List.map_nil]); first | done | rfl | (simp only [List.length_drop, List.length_take]; rfl)) : p := h
theorem Qc0_ {p : Prop} (h : p := by first | rfl | (simp; done) | (simp [*]; done)) : p := h
theorem Qd0_ {p : Prop} (h : p := by first | rfl | (simp [errW_none, errW_some] <;> rfl) | (simp [*, errW_none, errW_some] <;> rfl)) : p := h
theorem Qe0_ {p : Prop} (h : p := by first | (with_reducible assumption) | assumption) : p := h
theorem Qf0_ {p : Prop} (h : p := by repeat (first | exact Drawn0.refl _ | apply Drawn0.step)) : p := h
theorem Qg0_ {p : Prop} (h : p := by first | (go_simp; done) | (go_simp; rfl)) : p := h
theorem Qh0_ {p : Prop} (h : p := by kernel_rfl) : p := h
theorem Qi0_ {p : Prop} (h : p := by repeat (first | exact Below.refl _ _ | apply below_drew1 | apply pw_below_drewN)) : p := h
theorem Qj0_ {p : Prop} (h : p := by repeat (first | (with_reducible first | exact HB.out | apply below_alloc | apply pw_below_drewN | apply below_drew1 | refine below_set ?_ GE120.out | refine below_set ?_ GE138.out) | exact HB.out)) : p := h
theorem Qk0_ {p : Prop} (h : p := by repeat (first | (with_reducible first | exact HB.out | apply below_alloc | apply pw_below_drewN | apply below_drew1 | refine below_set ?_ (IsS85.ge HI163.out) | refine below_set ?_ GE159.out) | exact HB.out)) : p := h
theorem Ql0_ {p : Prop} (h : p := by repeat (first | (with_reducible first | exact HB.out | apply below_alloc | apply pw_below_drewN | apply below_drew1 | refine below_set ?_ (IsS85.ge HI0.out)) | exact HB.out)) : p := h
theorem Qm0_ {p : Prop} (h : p := by repeat (first | exact Below.refl _ _ | apply below_drew1 | apply pw_below_drewN | apply below_alloc)) : p := h
theorem Qn0_ {p : Prop} (h : p := by repeat (first | (with_reducible first | exact HK.out | apply KeepBut.set_ | apply keep_drewN | apply keep_drew | apply keep_alloc) | exact HK.out)) : p := h
theorem Qo0_ {p : Prop} (h : p := by simp only [List.length_append, List.length_cons, List.length_nil]; omega) : p := h
theorem Qp0_ {p : Prop} (h : p := by (try simp only [Int.add_zero]); repeat (first | (with_reducible first | exact HI163.out | apply IsS85.alloc | apply IsS85.drewN | apply IsS85.drew | apply IsS85.set_1 | apply IsS85.set_2 | refine IsS85.far ?_ NB163_159.out _) | exact HI163.out)) : p := h
theorem Qq0_ {p : Prop} (h : p := by (try simp only [Int.add_zero]); repeat (first | (with_reducible first | exact HI0.out | apply IsS85.alloc | apply IsS85.drewN | apply IsS85.drew | apply IsS85.set_1 | apply IsS85.set_2) | exact HI0.out)) : p := h
theorem Qr0_ {p : Prop} (h : p := by first | rfl | decide | (simp; done) | (simp [Value.oneCell']; done)) : p := h
theorem Qs0_ {p : Prop} (h : p := by have := HK1.out; omega) : p := h
theorem Qt0_ {p : Prop} (h : p := by (with_reducible repeat (first | refine blk_drewN ?_ _ | refine blk_drew ?_ | refine blk_alloc ?_ _)); refine blk_put (cs := #[.int .i64 0, .int .i64 0, .slice none 0 0, .slice none 0 0]) ?_ 3 _ rfl; (with_reducible repeat (first | refine blk_drewN ?_ _ | refine blk_drew ?_ | refine blk_alloc ?_ _)); refine blk_put (cs := #[.int .i64 0, .int .i64 0, .slice none 0 0, .slice none 0 0]) ?_ 2 _ rfl; (with_reducible repeat (first | refine blk_drewN ?_ _ | refine blk_drew ?_ | refine blk_alloc ?_ _)); refine blk_put (cs := #[.int .i64 0, .int .i64 0, .slice none 0 0, .slice none 0 0]) ?_ 1 _ rfl; (with_reducible repeat (first | refine blk_drewN ?_ _ | refine blk_drew ?_ | refine blk_alloc ?_ _)); refine blk_put (cs := #[.int .i64 0, .int .i64 0, .slice none 0 0, .slice none 0 0]) ?_ 0 _ rfl; (with_reducible repeat (first | refine blk_drewN ?_ _ | refine blk_drew ?_ | refine blk_alloc ?_ _)); exact BK120.out) : p := h
theorem Qu0_ {p : Prop} (h : p := by rw [hg]; exact Nat.ne_of_lt (blk_lt (g := gb316) (o := .cells #[.int .i64 t307, .int .i64 t308, .slice Ao13 t309.length co13, .slice Ao14 t312.length co14] 26 (0, 0)) (Qk_ BK316.out))) : p := h
theorem Qv0_ {p : Prop} (h : p := by rw [hg]; exact Nat.ne_of_gt (blk_lt (g := gb316) (o := .cells #[.int .i64 t307, .int .i64 t308, .slice Ao13 t309.length co13, .slice Ao14 t312.length co14] 26 (0, 0)) (Qk_ BK316.out))) : p := h
theorem Qw0_ {p : Prop} (h : p := by first | exact HT.out | exact tabBelow HT.out Qa0_) : p := h
theorem Qx0_ {p : Prop} (h : p := by repeat (first | (with_reducible first | exact HB.out | apply below_alloc | apply pw_below_drewN | apply below_drew1 | refine below_set ?_ GE259.out | refine below_set ?_ GE260.out) | exact HB.out)) : p := h
theorem Qy0_ {p : Prop} (h : p := by decide +kernel) : p := h
theorem Qz0_ {p : Prop} (h : p := by repeat (first | exact (Kd.C_below HR0_3.out HB.out) | (with_reducible refine Kd.C_alloc ?_ _) | (with_reducible refine Kd.C_drewN ?_ _) | (with_reducible refine Kd.C_drew ?_))) : p := h
theorem Qa1_ {p : Prop} (h : p := by first | exact Kd.R_nil _ _ _ _ _ | exact Kd.N_nil _ _ _ _ _ | exact Kd.V_nil _ _ _ _ _ | exact Kd.Q_nil _ _ _ _ _ | exact Kd.S_nil _ _ _ _ _) : p := h
theorem Qb1_ {p : Prop} (h : p := by repeat (first | (with_reducible first | exact HB.out | apply below_alloc | apply pw_below_drewN | apply below_drew1 | refine below_set ?_ GE316.out | refine below_set ?_ GE359.out) | exact HB.out)) : p := h
theorem Qc1_ {p : Prop} (h : p := by repeat (first | (with_reducible first | exact HB.out | apply below_alloc | apply pw_below_drewN | apply below_drew1 | refine below_set ?_ GE316.out | refine below_set ?_ GE349.out) | exact HB.out)) : p := h
theorem Qd1_ {p : Prop} (h : p := by repeat (first | exact (Kd.C_below HR0_2.out (Qg_ GE193.out)) | (with_reducible refine Kd.C_alloc ?_ _) | (with_reducible refine Kd.C_drewN ?_ _) | (with_reducible refine Kd.C_drew ?_))) : p := h
theorem Qe1_ {p : Prop} (h : p := by first | omega | exact Nat.le_refl _) : p := h
theorem Qf1_ {p : Prop} (h : p := by (with_reducible repeat (first | apply Kd.R_alloc | apply Kd.R_drewN | apply Kd.R_drew)); exact (Kd.R_mono (Kd.R_far (p := ⟨gb316, 3, none⟩) (Kd.R_far (p := ⟨gb316, 2, none⟩) (Kd.R_far (p := ⟨gb316, 1, none⟩) (Kd.R_far (p := ⟨gb316, 0, none⟩) (Kd.R_types HO314.out BK316.out (by decide)) (fun _ hk => hk.2) (.int .i64 t307)) (fun _ hk => hk.2) (.int .i64 t308)) (fun _ hk => hk.2) (.slice Ao13 t309.length co13)) (fun _ hk => hk.2) (.slice Ao14 t312.length co14)) (fun _ h_ => h_.1))) : p := h
theorem Qg1_ {p : Prop} (h : p := by (with_reducible repeat (first | apply Kd.R_alloc | apply Kd.R_drewN | apply Kd.R_drew)); exact (Kd.R_mono (Kd.R_far (p := ⟨gb316, 3, none⟩) (Kd.R_far (p := ⟨gb316, 2, none⟩) (Kd.R_far (p := ⟨gb316, 1, none⟩) (Kd.R_far (p := ⟨gb316, 0, none⟩) (Kd.R_types HO311.out BK316.out (by decide)) (fun _ hk => hk.2) (.int .i64 t307)) (fun _ hk => hk.2) (.int .i64 t308)) (fun _ hk => hk.2) (.slice Ao13 t309.length co13)) (fun _ hk => hk.2) (.slice Ao14 t312.length co14)) (fun _ h_ => h_.1))) : p := h
theorem Qh1_ {p : Prop} (h : p := by rw [ofL_size]; omega) : p := h
theorem Qi1_ {p : Prop} (h : p := by rw [hg]; exact (below_size (Qg_ GE316.out))) : p := h
theorem Qj1_ {p : Prop} (h : p := by repeat (first | exact Below.refl _ _ | exact HWE.out | apply below_drew1 | apply pw_below_drewN | apply below_alloc)) : p := h
theorem Qk1_ {p : Prop} (h : p := by first | rfl | decide | (simp; done) | (simp [Value.oneCell']; done) | exact ra_all HI.out) : p := h
theorem Ql1_ {p : Prop} (h : p := by (with_reducible repeat (first | apply Kd.R_alloc | apply Kd.R_drewN | apply Kd.R_drew)); exact (Kd.R_mono (Kd.R_far (p := ⟨gb359, 1, none⟩) (Kd.R_far (p := ⟨gb359, 0, none⟩) (Kd.R_types HO356.out BK359.out (by decide)) (fun _ hk => hk.2) (.slice Ao116 t351.length co116)) (fun _ hk => hk.2) (.slice Ao119 t354.length co119)) (fun _ h_ => h_.1))) : p := h
theorem Qm1_ {p : Prop} (h : p := by (with_reducible repeat (first | apply Kd.R_alloc | apply Kd.R_drewN | apply Kd.R_drew)); exact (Kd.R_mono (Kd.R_far (p := ⟨gb359, 1, none⟩) (Kd.R_far (p := ⟨gb359, 0, none⟩) (Kd.R_types HO353.out BK359.out (by decide)) (fun _ hk => hk.2) (.slice Ao116 t351.length co116)) (fun _ hk => hk.2) (.slice Ao119 t354.length co119)) (fun _ h_ => h_.1))) : p := h
theorem Qn1_ {p : Prop} (h : p := by (with_reducible repeat (first | apply Kd.R_alloc | apply Kd.R_drewN | apply Kd.R_drew)); exact (Kd.R_mono (Kd.R_far (p := ⟨gb349, 1, none⟩) (Kd.R_far (p := ⟨gb349, 0, none⟩) (Kd.R_types HO346.out BK349.out (by decide)) (fun _ hk => hk.2) (.slice Ao93 t341.length co93)) (fun _ hk => hk.2) (.slice Ao96 t344.length co96)) (fun _ h_ => h_.1))) : p := h
theorem Qo1_ {p : Prop} (h : p := by (with_reducible repeat (first | apply Kd.R_alloc | apply Kd.R_drewN | apply Kd.R_drew)); exact (Kd.R_mono (Kd.R_far (p := ⟨gb349, 1, none⟩) (Kd.R_far (p := ⟨gb349, 0, none⟩) (Kd.R_types HO343.out BK349.out (by decide)) (fun _ hk => hk.2) (.slice Ao93 t341.length co93)) (fun _ hk => hk.2) (.slice Ao96 t344.length co96)) (fun _ h_ => h_.1))) : p := h
theorem Qp1_ {p : Prop} (h : p := by rw [hg]; exact (below_size Qa0_)) : p := h
theorem Qq1_ {p : Prop} (h : p := by repeat (first | (with_reducible first | exact HI0.out | apply IsS85.alloc | apply IsS85.drewN | apply IsS85.drew | apply IsS85.set_1 | apply IsS85.set_2) | exact HI0.out)) : p := h
theorem Qr1_ {p : Prop} (h : p := by first | rfl | (simp; done) | (simp [*]; done) | (simp [show (⟨#[10]⟩ : ByteArray).size = 1 from rfl]; done)) : p := h
theorem Qs1_ {p : Prop} (h : p := by repeat (first | exact Below.refl _ _ | exact HWG.out | apply below_drew1 | apply pw_below_drewN | apply below_alloc | refine Below.setCell (p := ⟨wg.heap.size, _, none⟩) ?_ (show wg.heap.size ≤ wg.heap.size from Nat.le_refl _) _ | refine Below.setCell (p := ⟨w2.heap.size, _, none⟩) ?_ HS2.out _)) : p := h
theorem Qt1_ {p : Prop} (h : p := by repeat (first | (with_reducible first | exact HB4.out | apply below_alloc | apply pw_below_drewN | apply below_drew1) | exact HB4.out)) : p := h
theorem Qu1_ {p : Prop} (h : p := by have := HJ8.out; have := HJ22.out; have := HJ32.out; first | omega | exact Nat.le_refl _) : p := h
theorem Qv1_ {p : Prop} (h : p := by (with_reducible repeat (first | refine blk_drewN ?_ _ | refine blk_drew ?_ | refine blk_alloc ?_ _)); refine blk_far ?_ NB120_138.out _; (with_reducible repeat (first | refine blk_drewN ?_ _ | refine blk_drew ?_ | refine blk_alloc ?_ _)); exact BK120.out) : p := h
end Go.Proofs
