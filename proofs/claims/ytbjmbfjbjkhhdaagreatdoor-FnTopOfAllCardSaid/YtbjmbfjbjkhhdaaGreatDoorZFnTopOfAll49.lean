/- Made small by wip/pack.py: lemmas and contracts that the law's row leans on. -/
import Derived.KernelRfl
import Derived.Tactics
namespace Go.Proofs
set_option linter.unusedVariables false
theorem Qr_ {p q : Prop} (h : q) (f : q → p := by (intro h_; (with_reducible repeat (first | apply Kd.R_alloc | apply Kd.R_drewN | apply Kd.R_drew)); exact h_)) : p := f h
theorem Qk_ {p q : Prop} (h : q) (f : q → p := by (intro h_; (with_reducible repeat (first | refine blk_drewN ?_ _ | refine blk_drew ?_ | refine blk_alloc ?_ _)); exact h_)) : p := f h
theorem Qg_ {p q : Prop} (h : q) (f : q → p := by (intro h_; repeat (first | (with_reducible first | exact HB.out | apply below_alloc | apply pw_below_drewN | apply below_drew1 | refine below_set ?_ h_) | exact HB.out))) : p := f h
theorem Qc_ {p q : Prop} (h : q) (f : q → p := by (intro h_; repeat (first | exact h_ | (with_reducible refine Kd.C_alloc ?_ _) | (with_reducible refine Kd.C_drewN ?_ _) | (with_reducible refine Kd.C_drew ?_)))) : p := f h
theorem Qa0_ {p : Prop} (h : p := by repeat (first | (with_reducible first | exact HB.out | apply below_alloc | apply pw_below_drewN | apply below_drew1) | exact HB.out)) : p := h
theorem Qb0_ {p : Prop} (h : p := by (try simp only [List.map_toArray, List.map_cons, List.map_nil]); first | done | rfl | (simp only [List.length_drop, List.length_take]; rfl)) : p := h
theorem Qc0_ {p : Prop} (h : p := by first | rfl | (simp; done) | (simp [*]; done)) : p := h
theorem Qd0_ {p : Prop} (h : p := by repeat (first | exact Drawn0.refl _ | apply Drawn0.step)) : p := h
theorem Qe0_ {p : Prop} (h : p := by first | rfl | (simp [errW_none, errW_some] <;> rfl) | (simp [*, errW_none, errW_some] <;> rfl)) : p := h
theorem Qf0_ {p : Prop} (h : p := by first | (with_reducible assumption) | assumption) : p := h
theorem Qg0_ {p : Prop} (h : p := by first | exact HT.out | exact tabBelow HT.out Qa0_ | exact tabBelow HT.out (by repeat (first | (with_reducible first | exact HB.out | apply below_alloc | apply pw_below_drewN | apply below_drew1) | exact HB.out | refine below_set ?_ (Aside0.out (by assumption))))) : p := h
theorem Qh0_ {p : Prop} (h : p := by first | (go_simp; done) | (go_simp; rfl)) : p := h
theorem Qi0_ {p : Prop} (h : p := by kernel_rfl) : p := h
theorem Qj0_ {p : Prop} (h : p := by repeat (first | exact Below.refl _ _ | apply below_drew1 | apply pw_below_drewN)) : p := h
theorem Qk0_ {p : Prop} (h : p := by simp only [List.length_append, List.length_cons, List.length_nil]; omega) : p := h
theorem Ql0_ {p : Prop} (h : p := by repeat (first | (with_reducible first | exact HB.out | apply below_alloc | apply pw_below_drewN | apply below_drew1 | refine below_set ?_ GE120.out | refine below_set ?_ GE138.out) | exact HB.out)) : p := h
theorem Qm0_ {p : Prop} (h : p := by repeat (first | (with_reducible first | exact HB.out | apply below_alloc | apply pw_below_drewN | apply below_drew1 | refine below_set ?_ GE326.out | refine below_set ?_ GE366.out) | exact HB.out)) : p := h
theorem Qn0_ {p : Prop} (h : p := by repeat (first | exact Below.refl _ _ | apply below_drew1 | apply pw_below_drewN | apply below_alloc)) : p := h
theorem Qo0_ {p : Prop} (h : p := by first | rfl | decide | (simp; done) | (simp [Value.oneCell']; done)) : p := h
theorem Qp0_ {p : Prop} (h : p := by have := HK1.out; omega) : p := h
theorem Qq0_ {p : Prop} (h : p := by (with_reducible repeat (first | refine blk_drewN ?_ _ | refine blk_drew ?_ | refine blk_alloc ?_ _)); refine blk_put (cs := #[.int .i64 0, .int .i64 0, .slice none 0 0, .slice none 0 0]) ?_ 3 _ rfl; (with_reducible repeat (first | refine blk_drewN ?_ _ | refine blk_drew ?_ | refine blk_alloc ?_ _)); refine blk_put (cs := #[.int .i64 0, .int .i64 0, .slice none 0 0, .slice none 0 0]) ?_ 2 _ rfl; (with_reducible repeat (first | refine blk_drewN ?_ _ | refine blk_drew ?_ | refine blk_alloc ?_ _)); refine blk_put (cs := #[.int .i64 0, .int .i64 0, .slice none 0 0, .slice none 0 0]) ?_ 1 _ rfl; (with_reducible repeat (first | refine blk_drewN ?_ _ | refine blk_drew ?_ | refine blk_alloc ?_ _)); refine blk_put (cs := #[.int .i64 0, .int .i64 0, .slice none 0 0, .slice none 0 0]) ?_ 0 _ rfl; (with_reducible repeat (first | refine blk_drewN ?_ _ | refine blk_drew ?_ | refine blk_alloc ?_ _)); exact BK120.out) : p := h
theorem Qr0_ {p : Prop} (h : p := by decide +kernel) : p := h
theorem Qs0_ {p : Prop} (h : p := by repeat (first | (with_reducible first | exact HB.out | apply below_alloc | apply pw_below_drewN | apply below_drew1 | refine below_set ?_ GE283.out | refine below_set ?_ GE284.out) | exact HB.out)) : p := h
theorem Qt0_ {p : Prop} (h : p := by (with_reducible repeat (first | apply Kd.R_alloc | apply Kd.R_drewN | apply Kd.R_drew)); exact (Kd.R_mono (Kd.R_far (p := ⟨gb366, 1, none⟩) (Kd.R_far (p := ⟨gb366, 0, none⟩) (Kd.R_types HO_327003.out BK366.out (by decide)) (fun _ hk => hk.2) (.slice Ao135 t358.length co135)) (fun _ hk => hk.2) (.slice Ao138 t361.length co138)) (fun _ h_ => h_.1))) : p := h
theorem Qu0_ {p : Prop} (h : p := by (with_reducible repeat (first | apply Kd.R_alloc | apply Kd.R_drewN | apply Kd.R_drew)); exact (Kd.R_mono (Kd.R_far (p := ⟨gb366, 1, none⟩) (Kd.R_far (p := ⟨gb366, 0, none⟩) (Kd.R_types HO_327002.out BK366.out (by decide)) (fun _ hk => hk.2) (.slice Ao135 t358.length co135)) (fun _ hk => hk.2) (.slice Ao138 t361.length co138)) (fun _ h_ => h_.1))) : p := h
theorem Qv0_ {p : Prop} (h : p := by (with_reducible repeat (first | apply Kd.R_alloc | apply Kd.R_drewN | apply Kd.R_drew)); exact (Kd.R_mono (Kd.R_far (p := ⟨gb366, 1, none⟩) (Kd.R_far (p := ⟨gb366, 0, none⟩) (Kd.R_types HO363.out BK366.out (by decide)) (fun _ hk => hk.2) (.slice Ao135 t358.length co135)) (fun _ hk => hk.2) (.slice Ao138 t361.length co138)) (fun _ h_ => h_.1))) : p := h
theorem Qw0_ {p : Prop} (h : p := by (with_reducible repeat (first | apply Kd.R_alloc | apply Kd.R_drewN | apply Kd.R_drew)); exact (Kd.R_mono (Kd.R_far (p := ⟨gb366, 1, none⟩) (Kd.R_far (p := ⟨gb366, 0, none⟩) (Kd.R_types HO360.out BK366.out (by decide)) (fun _ hk => hk.2) (.slice Ao135 t358.length co135)) (fun _ hk => hk.2) (.slice Ao138 t361.length co138)) (fun _ h_ => h_.1))) : p := h
theorem Qx0_ {p : Prop} (h : p := by repeat (first | exact (Kd.C_below HR0_3.out HB.out) | (with_reducible refine Kd.C_alloc ?_ _) | (with_reducible refine Kd.C_drewN ?_ _) | (with_reducible refine Kd.C_drew ?_))) : p := h
theorem Qy0_ {p : Prop} (h : p := by first | exact Kd.R_nil _ _ _ _ _ | exact Kd.N_nil _ _ _ _ _ | exact Kd.V_nil _ _ _ _ _ | exact Kd.Q_nil _ _ _ _ _ | exact Kd.S_nil _ _ _ _ _) : p := h
theorem Qz0_ {p : Prop} (h : p := by repeat (first | exact (Kd.C_below HR0.out HB.out) | (with_reducible refine Kd.C_alloc ?_ _) | (with_reducible refine Kd.C_drewN ?_ _) | (with_reducible refine Kd.C_drew ?_))) : p := h
theorem Qa1_ {p : Prop} (h : p := by first | omega | exact Nat.le_refl _) : p := h
theorem Qb1_ {p : Prop} (h : p := by rw [ofL_size]; omega) : p := h
theorem Qc1_ {p : Prop} (h : p := by first | rfl | (simp; done) | (simp [*]; done) | (simp [show (⟨#[10]⟩ : ByteArray).size = 1 from rfl]; done)) : p := h
theorem Qd1_ {p : Prop} (h : p := by repeat (first | exact (Kd.C_below HR0_2.out (Qg_ GE168.out)) | (with_reducible refine Kd.C_alloc ?_ _) | (with_reducible refine Kd.C_drewN ?_ _) | (with_reducible refine Kd.C_drew ?_))) : p := h
theorem Qe1_ {p : Prop} (h : p := by rw [hg]; exact Nat.ne_of_lt (blk_lt (g := gb326) (o := .cells #[.int .i64 t317, .int .i64 t318, .slice Ao12 t319.length co12, .slice Ao13 t322.length co13] 25 (0, 0)) (Qk_ BK326.out))) : p := h
theorem Qf1_ {p : Prop} (h : p := by rw [hg]; exact Nat.ne_of_gt (blk_lt (g := gb326) (o := .cells #[.int .i64 t317, .int .i64 t318, .slice Ao12 t319.length co12, .slice Ao13 t322.length co13] 25 (0, 0)) (Qk_ BK326.out))) : p := h
theorem Qg1_ {p : Prop} (h : p := by repeat (first | exact Below.refl _ _ | exact HWE.out | apply below_drew1 | apply pw_below_drewN | apply below_alloc)) : p := h
theorem Qh1_ {p : Prop} (h : p := by repeat (first | exact HR3.out | (with_reducible refine Kd.C_drewN ?_ _) | (with_reducible refine Kd.C_drew ?_))) : p := h
theorem Qi1_ {p : Prop} (h : p := by first | rfl | decide | (simp; done) | (simp [Value.oneCell']; done) | exact ra_all HI.out) : p := h
theorem Qj1_ {p : Prop} (h : p := by (with_reducible repeat (first | refine blk_drewN ?_ _ | refine blk_drew ?_ | refine blk_alloc ?_ _)); refine blk_far ?_ NB326_366.out _; (with_reducible repeat (first | refine blk_drewN ?_ _ | refine blk_drew ?_ | refine blk_alloc ?_ _)); refine blk_far ?_ NB326_366.out _; (with_reducible repeat (first | refine blk_drewN ?_ _ | refine blk_drew ?_ | refine blk_alloc ?_ _)); exact BK326.out) : p := h
theorem Qk1_ {p : Prop} (h : p := by have := HJ7.out; have := HJ25.out; have := HJ29.out; have := HJ39.out; have := HJ72.out; first | omega | exact Nat.le_refl _) : p := h
theorem Ql1_ {p : Prop} (h : p := by (with_reducible repeat (first | apply Kd.R_alloc | apply Kd.R_drewN | apply Kd.R_drew)); exact (Kd.R_mono (Kd.R_far (p := ⟨gb366, 1, none⟩) (Kd.R_far (p := ⟨gb366, 0, none⟩) (Kd.R_types HO363.out BK366.out (by decide)) (fun _ hk => hk.2) (.slice Ao121 t358.length co121)) (fun _ hk => hk.2) (.slice Ao124 t361.length co124)) (fun _ h_ => h_.1))) : p := h
theorem Qm1_ {p : Prop} (h : p := by (with_reducible repeat (first | apply Kd.R_alloc | apply Kd.R_drewN | apply Kd.R_drew)); exact (Kd.R_mono (Kd.R_far (p := ⟨gb366, 1, none⟩) (Kd.R_far (p := ⟨gb366, 0, none⟩) (Kd.R_types HO360.out BK366.out (by decide)) (fun _ hk => hk.2) (.slice Ao121 t358.length co121)) (fun _ hk => hk.2) (.slice Ao124 t361.length co124)) (fun _ h_ => h_.1))) : p := h
theorem Qn1_ {p : Prop} (h : p := by repeat (first | exact HRt.out | (with_reducible refine Kd.C_drewN ?_ _) | (with_reducible refine Kd.C_drew ?_))) : p := h
theorem Qo1_ {p : Prop} (h : p := by repeat (first | exact Below.refl _ _ | exact HWG.out | apply below_drew1 | apply pw_below_drewN | apply below_alloc | refine Below.setCell (p := ⟨wg.heap.size, _, none⟩) ?_ (show wg.heap.size ≤ wg.heap.size from Nat.le_refl _) _ | refine Below.setCell (p := ⟨w2.heap.size, _, none⟩) ?_ HS2.out _)) : p := h
theorem Qp1_ {p : Prop} (h : p := by rw [hg]; exact (below_size Qa0_)) : p := h
theorem Qq1_ {p : Prop} (h : p := by repeat (first | (with_reducible first | exact HB4.out | apply below_alloc | apply pw_below_drewN | apply below_drew1) | exact HB4.out)) : p := h
theorem Qr1_ {p : Prop} (h : p := by (with_reducible repeat (first | refine blk_drewN ?_ _ | refine blk_drew ?_ | refine blk_alloc ?_ _)); refine blk_far ?_ NB120_138.out _; (with_reducible repeat (first | refine blk_drewN ?_ _ | refine blk_drew ?_ | refine blk_alloc ?_ _)); exact BK120.out) : p := h
end Go.Proofs
