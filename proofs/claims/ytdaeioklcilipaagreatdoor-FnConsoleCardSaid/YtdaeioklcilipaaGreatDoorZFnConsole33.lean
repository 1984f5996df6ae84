/- Made small by wip/pack.py: lemmas and contracts that the law's row leans on. -/
import Derived.Test.YtdaeioklcilipaaGreatDoorZFnConsole27
import Derived.Test.YtdaeioklcilipaaGreatDoorZFnConsole32
namespace Go.Proofs.YtdaeioklcilipaaGreatDoor.QFnConsole
open Go.RowKit Go.Proofs.YtdaeioklcilipaaGreatDoorW.PrintWords Go.Proofs.YtdaeioklcilipaaGreatDoorW.PrintLast Go.Proofs.YtdaeioklcilipaaGreatDoorW.PrintMore
attribute [local go_sem] max2_int min2_int max_two min_two max_three min_three max_four min_four
set_option linter.unusedVariables false
set_option linter.unusedSimpArgs false
def slices_Clone_string_string.f (l0 : List ByteArray) : Option (List ByteArray) := if l0.length < 8796093022208 then some l0 else none
set_option maxHeartbeats 8000000 in
set_option maxRecDepth 100000 in
theorem slices_Clone_string_string.calls (A0 : Option Addr) (c0 : Nat) (l0 : List ByteArray) (r : List ByteArray) (w : World) (hr0 : Kd.C Kd.string w A0 l0.length l0) (hc0 : l0.length ≤ c0) (h : slices_Clone_string_string.f l0 = some r) :
 Calls Tryz.prog 33 #[.slice A0 l0.length c0] w fun e w' => ∃ v0_ : Value, e = .returned (v0_) ∧ Kd.R Kd.string 9 w' w.heap.size (fun _ => True) v0_ r ∧ Below w.heap.size w w' := by
 have q_ : ∀ (w_ : World) (a : Option Addr) (n c n' c' : Nat), (binOp .eql 24 (.slice a n c) (.slice none n' c')).run Tryz.prog w_ = .ok (.bool a.isNone) w_ := fun w_ a n c n' c' => Lib.run_eql_slice_nil w_ _ _ a n c n' c' Tryz.underlying24
 unfold slices_Clone_string_string.f at h
 by_cases c2 : l0.length < 8796093022208
 rotate_left
 ·rw [if_neg c2] at h
  exact absurd h (by simp)
 rw [if_pos c2] at h
 obtain rfl := Option.some.inj h
 clear h
 have HR0 := Aside0.mk hr0
 have LMc2 := Aside0.mk c2
 have HB := Aside0.mk (Below.refl w.heap.size w)
 obtain ⟨y105, hy105⟩ : ∃ y_ : List ByteArray, y_ = (([] : List ByteArray)) := ⟨_, rfl⟩
 have Ny105 := Aside0.mk hy105
 obtain ⟨y108, hy108⟩ : ∃ y_ : List ByteArray, y_ = (y105 ++ l0) := ⟨_, rfl⟩
 have Ny108 := Aside0.mk hy108
 have e108 : y108 = l0 := by rw [hy108, hy105]; rfl
 have E108 := Aside0.mk e108
 have L105 : Aside0 (y105.length + l0.length < 8796093022208) := Aside0.mk (by rw [hy105]; simpa using c2)
 clear c2 hr0 hc0 hy105 hy108 e108
 cases A0 with
 | none =>
  have e0 : l0 = [] := by
   rcases Nat.eq_zero_or_pos l0.length with h0 | h0
   ·exact List.eq_nil_of_length_eq_zero h0
   ·obtain ⟨ad, e, _⟩ := HR0.out.2.2 h0
    exact absurd e (by simp)
  subst e0
  go_enter Tryz.func33, Tryz.ntmps33
  go_wp2
  go_ret
  exact ⟨_, rfl, Kd.R_nil _ _ _ _ _, HB.out⟩
 | some ad =>
  go_enter Tryz.func33, Tryz.ntmps33
  go_wp2_with (first | ((with_reducible refine gate_dst (N := 5) rfl ?_); refine Kd.R_lit Kd.string _ 9 ?hg (N := 5) ?hd (xs := ([] : List ByteArray)) (inner := []) (ok := fun _ => True) (okp := fun _ => True) ?hr ?hp (fun _ hk => hk) trivial (Below.refl _ _) (Nat.le_refl _) (by simp) ?_; (case hd => rfl); (case hg => rfl); (case hr => exact Qj0_); (case hp => exact (Reps.none _ _)); intro v106 w3 ho4 hb hg_ hnew_; clear hg_ hnew_; (first | rw [← Ny105.out] at ho4 | (simp only [Int.reduceToNat] at ho4; rw [← Ny105.out] at ho4)); have n0_ := Aside0.mk (Kd.R_lower ho4 (below_size Qa0_)); have n1_ := Aside0.mk (below_step Qa0_ hb); clear HB; have HO107 := n0_; have HB := n1_; clear n0_ n1_; clear hb ho4) | ((with_reducible refine gate_builtin (b := .append) (xs := #[.tmp 5, .tmp 6]) rfl ?_); at_builtin; refine Kd.R_append_rows Kd.string (w0 := w) w.heap.size rfl (.tmp 5) (.tmp 6) 24 9 (.string ⟨#[]⟩) 16 rfl Tryz.underlying24 info9 rfl (by decide) (by omega) v106 y105 l0 _ _ _ (fun _ => True) (fun _ => False) rfl rfl ?aO ?aR (fun _ _ h => h) (fun _ h => h.elim) ?aF ?aB ?aS ?aL ?_; (case aR => repeat (first | exact (Kd.C_below HR0.out HB.out) | (with_reducible refine Kd.C_alloc ?_ _) | (with_reducible refine Kd.C_drewN ?_ _) | (with_reducible refine Kd.C_drew ?_))); (case aB => exact Qa0_); (case aF => exact (fun _ _ => trivial)); (case aO => exact (Qr_ HO107.out)); (case aS => exact (below_size Qa0_)); (case aL => have := L105.out; omega); intro v109 w5 ho hb hg hat; rw [← Ny108.out] at ho; have n0_ := Aside0.mk (hb); have n1_ := Aside0.mk (ho); clear HB; clear HO107; have HB := n0_; have HO110 := n1_; clear n0_ n1_; clear ho hb hg hat))
  go_ret
  have HF := HO110.out
  rw [E108.out] at HF
  exact ⟨_, rfl, by (with_reducible repeat (first | apply Kd.R_alloc | apply Kd.R_drewN | apply Kd.R_drew)); exact HF, Qa0_⟩
def impl_copyConsole.f (l0_0 : List ByteArray) (l0_1 : List ByteArray) : Option (List ByteArray × List ByteArray) := (slices_Clone_string_string.f l0_0).bind fun t278 => ((slices_Clone_string_string.f l0_1).bind fun t281 => (some (t278, t281)))
def impl_copyConsole.T1 : Bool × List (List Nat × List Nat) := (true, [([], []), ([0], [0]), ([1], [1]), ([], []), ([3], [3]), ([4, 2], [4]), ([2, 5], [2, 5]), ([6, 5, 0, 1, 2, 3, 4, 5, 6], [6])])
def impl_copyConsole.B1 : List Nat := [0, 1, 3, 0, 8, 31, 63, 127]
theorem impl_copyConsole.tab1 : rtab .any (opsOf Tryz.f15 1) = impl_copyConsole.T1 := by kernel_rfl
theorem impl_copyConsole.bits1 : waitsOk impl_copyConsole.T1.2 impl_copyConsole.B1 = true := by kernel_rfl
set_option maxHeartbeats 8000000 in
set_option maxRecDepth 100000 in
theorem impl_copyConsole.calls (A0_0 : Option Addr) (c0_0 : Nat) (l0_0 : List ByteArray) (A0_1 : Option Addr) (c0_1 : Nat) (l0_1 : List ByteArray) (r1 : List ByteArray) (r2 : List ByteArray) (w : World) (hr0_0 : Kd.C Kd.string w A0_0 l0_0.length l0_0) (hc0_0 : l0_0.length ≤ c0_0) (hr0_1 : Kd.C Kd.string w A0_1 l0_1.length l0_1) (hc0_1 : l0_1.length ≤ c0_1) (h : impl_copyConsole.f l0_0 l0_1 = some (r1, r2)) :
 Calls Tryz.prog 15 #[.agg #[.slice A0_0 l0_0.length c0_0, .slice A0_1 l0_1.length c0_1]] w fun e w' => ∃ v0_ v1_ : Value, e = .returned (.agg #[v0_, v1_]) ∧ Kd.R Kd.string 9 w' w.heap.size (fun k_ => some k_ ≠ (v1_ : Value).ownBlock) v0_ r1 ∧ Kd.R Kd.string 9 w' w.heap.size (fun k_ => some k_ ≠ (v0_ : Value).ownBlock) v1_ r2 ∧ Below w.heap.size w w' := by
 have hu26 := Tryz.underlying26
 have HR0_0 := Aside0.mk hr0_0
 have HC0_0 := Aside0.mk hc0_0
 clear hr0_0 hc0_0
 have HR0_1 := Aside0.mk hr0_1
 have HC0_1 := Aside0.mk hc0_1
 clear hr0_1 hc0_1
 have HB := Aside0.mk (Below.refl w.heap.size w)
 have H : ((slices_Clone_string_string.f l0_0).bind fun t278 => ((slices_Clone_string_string.f l0_1).bind fun t281 => (some (t278, t281)))) = some (r1, r2) := h
 clear h
 replace H := Option.bind_eq_some_iff.mp H
 obtain ⟨t278, A20, H⟩ := H
 try dsimp only at H
 have A2 := Aside0.mk A20
 clear A20
 replace H := Option.bind_eq_some_iff.mp H
 obtain ⟨t281, A30, H⟩ := H
 try dsimp only at H
 have A3 := Aside0.mk A30
 clear A30
 simp only [Option.some.injEq, Prod.mk.injEq] at H
 obtain ⟨rfl, rfl⟩ := H
 go_enter Tryz.func15, Tryz.ntmps15
 try go_wp2_with (first | ((with_reducible refine gate_dst (N := 1) rfl ?_); refine box_event ?hg (N := 1) ?hd (cs := #[.slice A0_0 l0_0.length c0_0, .slice A0_1 l0_1.length c0_1]) (t := 26) ?hr ?_; (case hd => rfl); (case hg => rfl); (case hr => exact Qj0_); intro gb276 hg w4 hbox hb; have n0_ := Aside0.mk (below_step Qa0_ hb); have n1_ := Aside0.mk (hbox); have n2_ := Aside0.mk ((by rw [hg]; exact (below_size Qa0_) : w.heap.size ≤ gb276)); have n3_ := Aside0.mk ((by rw [hg]; exact (below_size Qa0_) : w.heap.size ≤ gb276)); clear HB; have HB := n0_; have BK276 := n1_; have GW276 := n2_; have GE276 := n3_; clear n0_ n1_ n2_ n3_; clear hb hbox hg) | ((with_reducible refine gate_dst (N := 2) rfl ?_); refine box_event ?hg (N := 2) ?hd (cs := #[.slice none 0 0, .slice none 0 0]) (t := 26) ?hr ?_; (case hd => rfl); (case hg => rfl); (case hr => exact Qj0_); intro gb277 hg w5 hbox hb; have n0_ := Aside0.mk (blk_below (g := gb276) (o := .cells #[.slice A0_0 l0_0.length c0_0, .slice A0_1 l0_1.length c0_1] 26 (0, 0)) (Qk_ BK276.out) hb); have n1_ := Aside0.mk (below_step (Qg_ GE276.out) hb); have n2_ := Aside0.mk (hbox); have n3_ := Aside0.mk ((by rw [hg]; exact (below_size (Qg_ GE276.out)) : w.heap.size ≤ gb277)); have n4_ := Aside0.mk ((by rw [hg]; exact (below_size (Qg_ GE276.out)) : w.heap.size ≤ gb277)); have n5_ := Aside0.mk ((by rw [hg]; exact Nat.ne_of_lt (blk_lt (g := gb276) (o := .cells #[.slice A0_0 l0_0.length c0_0, .slice A0_1 l0_1.length c0_1] 26 (0, 0)) (Qk_ BK276.out)) : gb276 ≠ gb277)); have n6_ := Aside0.mk ((by rw [hg]; exact Nat.ne_of_gt (blk_lt (g := gb276) (o := .cells #[.slice A0_0 l0_0.length c0_0, .slice A0_1 l0_1.length c0_1] 26 (0, 0)) (Qk_ BK276.out)) : gb277 ≠ gb276)); clear BK276; clear HB; have BK276 := n0_; have HB := n1_; have BK277 := n2_; have GW277 := n3_; have GE277 := n4_; have NB276_277 := n5_; have NB277_276 := n6_; clear n0_ n1_ n2_ n3_ n4_ n5_ n6_; clear hb hbox hg))
 have n0_ := Aside0.mk (blk_drew BK276.out)
 have n1_ := Aside0.mk (blk_drew BK277.out)
 have n2_ := Aside0.mk (below_drew1 HB.out)
 clear BK276
 clear BK277
 clear HB
 have BK276 := n0_
 have BK277 := n1_
 have HB := n2_
 clear n0_ n1_ n2_
 refine start_ (n := 8) (S := fun w' => w'.cell? ⟨gb276, 0, none⟩ = some (.slice A0_0 l0_0.length c0_0) ∧ w'.cell? ⟨gb276, 1, none⟩ = some (.slice A0_1 l0_1.length c0_1)) (ds := []) #[false, false, false, false, false, false, false, false] Ql0_ rfl rfl ⟨(blk_cell BK276.out 0).trans rfl, (blk_cell BK276.out 1).trans rfl⟩ (fun hHeld => ?_); refine with_tabW impl_copyConsole.tab1 impl_copyConsole.bits1 (fun HT_ HW_ => ?_)
 generalize w5.drew = w6 at BK276 BK277 HB hHeld ⊢
 refine pure_ (i := 0) (N := some 3) (v := ?_) (a' := ?_) #[true, false, false, false, false, false, false, false] rfl rfl (any_of HT_.out Ql0_) (fun _ _ _ h => h) (Or.inl ⟨by rfl, ?_⟩) ?_ ?_
 rotate_left
 ·intro w'
  go_simp
  with_reducible rfl
 rotate_left
 ·simp only [Act.put, List.setIfInBounds_toArray, List.set_cons_zero, List.set_cons_succ, i64_w, i32_w]
  rfl
 refine pure_ (i := 3) (N := some 6) (v := ?_) (a' := ?_) #[true, false, false, true, false, false, false, false] rfl rfl (any_of HT_.out Ql0_) (fun _ _ _ h => h) (Or.inl ⟨by rfl, ?_⟩) ?_ ?_
 rotate_left
 ·intro w'
  go_simp
  with_reducible rfl
 rotate_left
 ·simp only [Act.put, List.setIfInBounds_toArray, List.set_cons_zero, List.set_cons_succ, i64_w, i32_w]
  rfl
 refine take_ (i := 1) (N := some 4) (v := ?_) (a' := ?_) #[true, true, false, true, false, false, false, false] rfl rfl (take_ofW HT_.out HW_.out Ql0_) (fun _ _ _ h => h) (Or.inl ⟨by rfl, ?_⟩) hHeld ?_ ?_
 rotate_left
 ·rintro w' ⟨s0, s1⟩
  go_simp
  with_reducible rfl
 rotate_left
 ·simp only [Act.put, List.setIfInBounds_toArray, List.set_cons_zero, List.set_cons_succ, i64_w, i32_w]
  rfl
 refine take_ (i := 4) (N := some 7) (v := ?_) (a' := ?_) #[true, true, false, true, true, false, false, false] rfl rfl (take_ofW HT_.out HW_.out Ql0_) (fun _ _ _ h => h) (Or.inl ⟨by rfl, ?_⟩) hHeld ?_ ?_
 rotate_left
 ·rintro w' ⟨s0, s1⟩
  go_simp
  with_reducible rfl
 rotate_left
 ·simp only [Act.put, List.setIfInBounds_toArray, List.set_cons_zero, List.set_cons_succ, i64_w, i32_w]
  rfl
 refine one_ (i := 2) (N := some 5) #[true, true, true, true, true, false, false, false] rfl rfl (one_of HT_.out Ql0_) (by decide) (fun K hK => ?_)
 refine goes_ Tryz.func33 Ql0_ rfl #[.slice A0_0 l0_0.length c0_0] (by rfl) rfl rfl Qb0_ ?_
 with_reducible refine (slices_Clone_string_string.calls _ _ l0_0 t278 _ ?side1 ?side2 A2.out).mono ?_
 (case side1 => repeat (first | exact (Kd.C_below HR0_0.out HB.out) | (with_reducible refine Kd.C_alloc ?_ _) | (with_reducible refine Kd.C_drewN ?_ _) | (with_reducible refine Kd.C_drew ?_)))
 (case side2 => exact HC0_0.out)
 rintro e w7 ⟨v279, rfl, ho0, hb⟩
 refine ⟨_, rfl, ?_⟩
 have n0_ := Aside0.mk (Kd.R_lower ho0 (below_size Qu0_))
 have n1_ := Aside0.mk (blk_below (g := gb276) (o := .cells #[.slice A0_0 l0_0.length c0_0, .slice A0_1 l0_1.length c0_1] 26 (0, 0)) (Qk_ BK276.out) hb)
 have n2_ := Aside0.mk (blk_below (g := gb277) (o := .cells #[.slice none 0 0, .slice none 0 0] 26 (0, 0)) (Qk_ BK277.out) hb)
 have n3_ := Aside0.mk (below_step Qu0_ hb)
 clear BK276
 clear BK277
 clear HB
 have HO280 := n0_
 have BK276 := n1_
 have BK277 := n2_
 have HB := n3_
 clear n0_ n1_ n2_ n3_
 (try clear hb)
 (try clear hb2)
 (try clear hk)
 (try clear hi)
 (try clear ho0)
 refine hK.out _ _ ⟨(blk_cell BK276.out 0).trans rfl, (blk_cell BK276.out 1).trans rfl⟩ (fun hHeld => ?_)
 clear hK K
 refine norm_ (a' := ?_) ?_ ?_
 rotate_left
 ·show Act.put _ (some 5) _ = _
  simp only [Act.put, List.setIfInBounds_toArray, List.set_cons_zero, List.set_cons_succ, i64_w, i32_w]
  rfl
 refine one_ (i := 5) (N := some 8) #[true, true, true, true, true, true, false, false] rfl rfl (one_of HT_.out Ql0_) (by decide) (fun K hK => ?_)
 refine goes_ Tryz.func33 Ql0_ rfl #[.slice A0_1 l0_1.length c0_1] (by rfl) rfl rfl Qb0_ ?_
 with_reducible refine (slices_Clone_string_string.calls _ _ l0_1 t281 _ ?side1 ?side2 A3.out).mono ?_
 (case side1 => repeat (first | exact (Kd.C_below HR0_1.out HB.out) | (with_reducible refine Kd.C_alloc ?_ _) | (with_reducible refine Kd.C_drewN ?_ _) | (with_reducible refine Kd.C_drew ?_)))
 (case side2 => exact HC0_1.out)
 rintro e w8 ⟨v282, rfl, ho0, hb⟩
 refine ⟨_, rfl, ?_⟩
 have n0_ := Aside0.mk (Kd.R_elder' (Qr_ HO280.out) (Kd.R_base ho0) hb)
 have n1_ := Aside0.mk (Kd.R_lower (Kd.R_new' ho0 (Kd.R_lt (Qr_ HO280.out))) (below_size Qu0_))
 have n2_ := Aside0.mk (blk_below (g := gb276) (o := .cells #[.slice A0_0 l0_0.length c0_0, .slice A0_1 l0_1.length c0_1] 26 (0, 0)) (Qk_ BK276.out) hb)
 have n3_ := Aside0.mk (blk_below (g := gb277) (o := .cells #[.slice none 0 0, .slice none 0 0] 26 (0, 0)) (Qk_ BK277.out) hb)
 have n4_ := Aside0.mk (below_step Qu0_ hb)
 clear HO280
 clear BK276
 clear BK277
 clear HB
 have HO280 := n0_
 have HO283 := n1_
 have BK276 := n2_
 have BK277 := n3_
 have HB := n4_
 clear n0_ n1_ n2_ n3_ n4_
 (try clear hb)
 (try clear hb2)
 (try clear hk)
 (try clear hi)
 (try clear ho0)
 obtain ⟨Ao9, co9, eo9⟩ := Kd.R_slice HO283.out
 (first | subst eo9 | (injection eo9 with f1_ f2_ f3_; have f4_ := f1_.symm; have f5_ := f3_.symm; clear f1_ f2_ f3_; subst f4_; subst f5_))
 obtain ⟨Ao10, co10, eo10⟩ := Kd.R_slice HO280.out
 (first | subst eo10 | (injection eo10 with f1_ f2_ f3_; have f4_ := f1_.symm; have f5_ := f3_.symm; clear f1_ f2_ f3_; subst f4_; subst f5_))
 refine hK.out _ _ ⟨(blk_cell BK276.out 0).trans rfl, (blk_cell BK276.out 1).trans rfl⟩ (fun hHeld => ?_)
 clear hK K
 refine norm_ (a' := ?_) ?_ ?_
 rotate_left
 ·show Act.put _ (some 8) _ = _
  simp only [Act.put, List.setIfInBounds_toArray, List.set_cons_zero, List.set_cons_succ, i64_w, i32_w]
  rfl
 refine pure_ (i := 6) (N := some 9) (v := ?_) (a' := ?_) #[true, true, true, true, true, true, true, false] rfl rfl (any_of HT_.out Ql0_) (fun _ _ _ h => h) (Or.inl ⟨by rfl, ?_⟩) ?_ ?_
 rotate_left
 ·intro w'
  go_simp
  with_reducible rfl
 rotate_left
 ·simp only [Act.put, List.setIfInBounds_toArray, List.set_cons_zero, List.set_cons_succ, i64_w, i32_w]
  rfl
 refine one_ (i := 7) (N := none) #[true, true, true, true, true, true, true, true] rfl rfl (one_of HT_.out Ql0_) (by decide) (fun K hK => ?_)
 have hs11 : w8.cell? ⟨gb277, 0, none⟩ = some (.slice none 0 0) := (blk_cell BK277.out 0).trans rfl
 have hfs11 := blk_frozen BK277.out 0
 have hns11_0 := NB276_277.out
 have hms11_0 := NB277_276.out
 have hs12 : w8.cell? ⟨gb277, 1, none⟩ = some (.slice none 0 0) := (blk_cell BK277.out 1).trans rfl
 have hfs12 := blk_frozen BK277.out 1
 have hns12_0 := NB276_277.out
 have hms12_0 := NB277_276.out
 refine skip_ (w1 := ?_) (by rfl) rfl ?_ ?_
 rotate_left
 ·go_simp
  rfl
 refine hK.out _ _ ⟨((cell_far (p := ⟨gb277, _, none⟩) NB276_277.out _).trans (((cell_far (p := ⟨gb277, _, none⟩) NB276_277.out _).trans (hHeld.1)))), ((cell_far (p := ⟨gb277, _, none⟩) NB276_277.out _).trans (((cell_far (p := ⟨gb277, _, none⟩) NB276_277.out _).trans (hHeld.2))))⟩ (fun hHeld => ?_)
 clear hK K
 refine done_ (done_of HT_.out Ql0_) ?_
 try go_wp2
 refine bodyPost_ret (results_cell_row rfl _ _ gb277 26 #[.slice Ao10 t278.length co10, .slice Ao9 t281.length co9] (0, 0) _ rfl (by (with_reducible repeat (first | refine blk_drewN ?_ _ | refine blk_drew ?_ | refine blk_alloc ?_ _)); refine blk_put (cs := #[.slice Ao10 t278.length co10, .slice none 0 0]) ?_ 1 _ rfl; (with_reducible repeat (first | refine blk_drewN ?_ _ | refine blk_drew ?_ | refine blk_alloc ?_ _)); refine blk_put (cs := #[.slice none 0 0, .slice none 0 0]) ?_ 0 _ rfl; (with_reducible repeat (first | refine blk_drewN ?_ _ | refine blk_drew ?_ | refine blk_alloc ?_ _)); exact BK277.out) Tryz.underlying26 rfl Ql0_) rfl ?_
 exact ⟨_, _, Qh0_, by (with_reducible repeat (first | apply Kd.R_alloc | apply Kd.R_drewN | apply Kd.R_drew)); exact Kd.R_mono (Kd.R_far (p := ⟨gb277, 1, none⟩) (Kd.R_far (p := ⟨gb277, 0, none⟩) (Kd.R_types HO280.out BK277.out (by decide)) (fun _ hk => hk.2) (.slice Ao10 t278.length co10)) (fun _ hk => hk.2) (.slice Ao9 t281.length co9)) (fun _ hk => hk.1.2), by (with_reducible repeat (first | apply Kd.R_alloc | apply Kd.R_drewN | apply Kd.R_drew)); exact Kd.R_mono (Kd.R_far (p := ⟨gb277, 1, none⟩) (Kd.R_far (p := ⟨gb277, 0, none⟩) (Kd.R_types HO283.out BK277.out (by decide)) (fun _ hk => hk.2) (.slice Ao10 t278.length co10)) (fun _ hk => hk.2) (.slice Ao9 t281.length co9)) (fun _ hk => hk.1.2), Qu0_⟩
def slices_Index_string_string.l0 : Nat → List ByteArray → ByteArray → Int → Int → Option (Int)
 | 0, _, _, _, _ => none
 | k + 1, x0, x1, x7, x8 => if x8 < x7 then (if 0 ≤ x8 then (if x8 < (x0.length : Int) then (if x1.toList = (rdOf ByteArray.empty x0 x8).toList then (some x8) else (slices_Index_string_string.l0 k x0 x1 x7 (wrap64 (x8 + 1)))) else (none)) else (none)) else (some (-1))
def slices_Index_string_string.f (k : Nat) (l0 : List ByteArray) (a1 : ByteArray) : Option (Int) := slices_Index_string_string.l0 k l0 a1 (l0.length : Int) 0
set_option maxHeartbeats 8000000 in
set_option maxRecDepth 100000 in
theorem slices_Index_string_string.calls (k : Nat) (A0 : Option Addr) (c0 : Nat) (l0 : List ByteArray) (a1 : ByteArray) (r : Int) (w : World) (hr0 : Kd.C Kd.string w A0 l0.length l0) (hc0 : l0.length ≤ c0) (h : slices_Index_string_string.f k l0 a1 = some r) :
 Calls Tryz.prog 40 #[.slice A0 l0.length c0, .string a1] w fun e w' => e = .returned (.int .i64 r) ∧ Drawn0 w w' := by
 have HR0 := Aside0.mk hr0
 have HC0 := Aside0.mk hc0
 clear hr0 hc0
 have H : (slices_Index_string_string.l0 k l0 a1 (l0.length : Int) 0) = some r := h
 clear h
 have H' := Aside0.mk H
 clear H
 go_enter Tryz.func40, Tryz.ntmps40
 go_wp2
 go_loopg [8] k (fun kq v8 w' => ∃ (x8_1 : Int), v8 = .int .i64 x8_1 ∧ Aside0 (slices_Index_string_string.l0 kq l0 a1 (l0.length : Int) x8_1 = some r) ∧ Aside0 (kq ≤ k) ∧ Drawn0 w w')
 case atStart => exact ⟨(0), Qf0_, H', ⟨Nat.le_refl _⟩, Qk0_⟩
 case round =>
  clear H'
  try clear p2
  obtain ⟨x8_1, rfl, HA, HK1, ⟨m1, rfl⟩⟩ := hrel
  cases gk with
  | zero => exact absurd HA.out (by simp [slices_Index_string_string.l0])
  | succ k1 =>
   have H := HA.out
   clear HA
   simp only [slices_Index_string_string.l0] at H
   by_cases c3 : x8_1 < (l0.length : Int)
   ·rw [if_pos c3] at H
    have c3b0 := decide_eq_true c3
    clear c3
    by_cases c4 : 0 ≤ x8_1
    ·rw [if_pos c4] at H
     have c4b0 := decide_eq_true c4
     clear c4
     by_cases c5 : x8_1 < (l0.length : Int)
     ·rw [if_pos c5] at H
      have c5b0 := decide_eq_true c5
      clear c5
      by_cases c6 : a1.toList = (rdOf ByteArray.empty l0 x8_1).toList
      ·rw [if_pos c6] at H
       have c6b0 := beq_iff_eq.mpr c6
       have c6b1 := bne_eq_false_iff_eq.mpr c6
       clear c6
       obtain rfl := Option.some.inj H
       have p284 : 0 ≤ (x8_1 : Int) := of_decide_eq_true Qg0_
       have q284 : x8_1 < (l0.length : Int) := of_decide_eq_true Qg0_
       obtain ⟨ad284, e284, hx284_0⟩ := Kd.at_string HR0.out x8_1 p284 q284
       cases e284
       replace p284 := eq_true p284
       replace q284 := eq_true q284
       go_wp2
       go_ret
       exact ⟨Qf0_, Qk0_⟩
      ·rw [if_neg c6] at H
       have c6b0 := beq_eq_false_iff_ne.mpr c6
       have c6b1 := bne_iff_ne.mpr c6
       have H' := Aside0.mk H
       clear H
       have p284 : 0 ≤ (x8_1 : Int) := of_decide_eq_true Qg0_
       have q284 : x8_1 < (l0.length : Int) := of_decide_eq_true Qg0_
       obtain ⟨ad284, e284, hx284_0⟩ := Kd.at_string HR0.out x8_1 p284 q284
       cases e284
       replace p284 := eq_true p284
       replace q284 := eq_true q284
       go_wp2
       go_roundg k1
       case measure => have := HK1.out; omega
       case rel => exact ⟨(wrap64 (x8_1 + 1)), Qf0_, H', ⟨Qs0_⟩, Qk0_⟩
     ·rw [if_neg c5] at H
      exact absurd H (by simp)
    ·rw [if_neg c4] at H
     exact absurd H (by simp)
   ·rw [if_neg c3] at H
    have c3b0 := decide_eq_false c3
    clear c3
    obtain rfl := Option.some.inj H
    go_wp2
    go_ret
    exact ⟨Qf0_, Qk0_⟩
def impl_within.f (a0 : Int) (a1 : Int) (a2 : Int) : Option (Bool) := if a0 ≥ a1 then (some (decide (a0 ≤ a2))) else (some false)
set_option maxHeartbeats 8000000 in
set_option maxRecDepth 100000 in
theorem impl_within.calls (a0 : Int) (a1 : Int) (a2 : Int) (r : Bool) (w : World) (h : impl_within.f a0 a1 a2 = some r) :
 Calls Tryz.prog 45 #[.int .i64 a0, .int .i64 a1, .int .i64 a2] w fun e w' => e = .returned (.bool r) ∧ Drawn0 w w' := by
 have H : (if a0 ≥ a1 then (some (decide (a0 ≤ a2))) else (some false)) = some r := h
 clear h
 by_cases c4 : a0 ≥ a1
 ·rw [if_pos c4] at H
  have c4b0 := decide_eq_true c4
  clear c4
  obtain rfl := Option.some.inj H
  go_enter Tryz.func45, Tryz.ntmps45
  go_wp2
  go_ret
  exact ⟨Qf0_, Qk0_⟩
 ·rw [if_neg c4] at H
  have c4b0 := decide_eq_false c4
  clear c4
  obtain rfl := Option.some.inj H
  go_enter Tryz.func45, Tryz.ntmps45
  go_wp2
  go_ret
  exact ⟨Qf0_, Qk0_⟩
theorem tabBelow0 {w w' : World} (h : Lib.TabIs Tryz.prog w "internal/strconv.uint64pow10" .u64 Lib.pow10Tab) (hb : Below w.heap.size w w') : Lib.TabIs Tryz.prog w' "internal/strconv.uint64pow10" .u64 Lib.pow10Tab := by
 unfold Lib.TabIs World.var? at *
 cases hg : Tryz.prog.globalNamed "internal/strconv.uint64pow10" with
 | none => simp [hg] at h
 | some g =>
  simp only [hg, Option.bind_some] at h ⊢
  have hlt : g < w.heap.size := by
   rcases Nat.lt_or_ge g w.heap.size with h1 | h1
   ·exact h1
   ·simp [Array.getElem?_eq_none h1] at h
  rw [hb.block g hlt]
  exact h
def LibW (w : World) : Prop := Lib.TabIs Tryz.prog w "internal/strconv.uint64pow10" .u64 Lib.pow10Tab ∧ (∃ ev, w.cell? ⟨3, 0, none⟩ = some ev ∧ (ev = .nilIface ∨ ∃ te pe, ev = .iface te pe)) ∧ (∃ ev, w.cell? ⟨4, 0, none⟩ = some ev ∧ (ev = .nilIface ∨ ∃ te pe, ev = .iface te pe))
theorem tabBelow {w w' : World} (h : LibW w) (hb : Below w.heap.size w w') : LibW w' := by
 obtain ⟨h1, ⟨e1, h2, h3⟩, ⟨e2, h4, h5⟩⟩ := h
 exact ⟨tabBelow0 h1 hb, ⟨e1, (hb.cell (World.block_lt_of_cell? w _ h2)).trans h2, h3⟩, ⟨e2, (hb.cell (World.block_lt_of_cell? w _ h4)).trans h4, h5⟩⟩
def strconv_FormatInt.f (a0 : Int) (a1 : Int) : Option (ByteArray) := if a1 = 10 ∧ -9223372036854775808 ≤ a0 ∧ a0 ≤ 9223372036854775807 then some ⟨(Lib.itoa a0).toArray⟩ else none
theorem strconv_FormatInt.calls (a0 : Int) (a1 : Int) (r : ByteArray) (w : World) (hT : LibW w) (h : strconv_FormatInt.f a0 a1 = some r) :
 Calls Tryz.prog 103 #[.int .i64 a0, .int .i64 a1] w fun e w' => e = .returned (.string r) ∧ Below w.heap.size w w' := by
 unfold strconv_FormatInt.f at h
 by_cases hc : a1 = 10 ∧ -9223372036854775808 ≤ a0 ∧ a0 ≤ 9223372036854775807
 ·rw [if_pos hc] at h
  obtain rfl := Option.some.inj h
  obtain ⟨rfl, h0, h1⟩ := hc
  refine (Tryz.strconv_FormatInt_10 a0 h0 h1 w hT.1).mono ?_
  rintro e w' ⟨he, k, os, rfl⟩
  exact ⟨he, Go.Lib.below_grow _ w (Nat.le_refl _) k os⟩
 ·rw [if_neg hc] at h
  cases h
def impl_Decimal.f (a0 : Int) : Option (ByteArray) := (strconv_FormatInt.f a0 10).bind fun t285 => (some t285)
set_option maxHeartbeats 8000000 in
set_option maxRecDepth 100000 in
theorem impl_Decimal.calls (a0 : Int) (r : ByteArray) (w : World) (hT : LibW w) (h : impl_Decimal.f a0 = some r) :
 Calls Tryz.prog 66 #[.int .i64 a0] w fun e w' => e = .returned (.string r) ∧ Below w.heap.size w w' := by
 have HT := Aside0.mk hT
 clear hT
 have HB := Aside0.mk (Below.refl w.heap.size w)
 have H : ((strconv_FormatInt.f a0 10).bind fun t285 => (some t285)) = some r := h
 clear h
 replace H := Option.bind_eq_some_iff.mp H
 obtain ⟨t285, A20, H⟩ := H
 try dsimp only at H
 have A2 := Aside0.mk A20
 clear A20
 obtain rfl := Option.some.inj H
 go_enter Tryz.func66, Tryz.ntmps66
 go_wp2_with (first | ((with_reducible refine gate_callee (f := 103) rfl ?_); refine goesL_ (some 4) rfl rfl Tryz.func103 Ql0_ rfl #[.int .i64 a0, .int .i64 10] rfl Qb0_ ?_; (with_reducible refine (strconv_FormatInt.calls a0 10 t285 _ ?tb A2.out).mono ?_); (case tb => exact Qk1_); rintro e w3 ⟨rfl, hb⟩; refine ⟨_, rfl, ?_⟩; have n0_ := Aside0.mk (below_step Qa0_ hb); clear HB; have HB := n0_; clear n0_; (try clear hb); (try clear hb2); (try clear hk); (try clear hi)))
 go_ret
 exact ⟨Qh0_, Qa0_⟩
def rdInt (s : ByteArray) : Int × Bool := match Lib.parseIntB 64 s.data.toList with
 | .ok v => if (-1000000000000000 ≤ v ∧ v ≤ 1000000000000000) ∧ (⟨(Lib.itoa v).toArray⟩ : ByteArray) = s then (v, true) else (0, false)
 | _ => (0, false)
def impl_readInteger.f (a0 : ByteArray) (a1 : Int) : Option (Int × Bool) := if a1 = 1000000000000000 ∧ a0.size ≤ 281474976710656 then some (rdInt a0) else none
theorem ri_parse (s : ByteArray) (hs : s.size ≤ 281474976710656) (w : World) (hT : LibW w) :
 Calls Tryz.prog 87 #[.string s, .int .i64 10, .int .i64 64] w fun e w' => (∃ v u : Value, e = .returned (.tuple #[v, u]) ∧ Below w.heap.size w w' ∧ ((u = .nilIface ∧ ∃ n, Lib.parseIntB 64 s.data.toList = .ok n ∧ v = .int .i64 n) ∨ ((∃ t p, u = .iface t p) ∧ (∃ n, v = .int .i64 n) ∧ ∀ n, Lib.parseIntB 64 s.data.toList ≠ .ok n))) := by
 obtain ⟨_, ⟨e1, h1, h2⟩, ⟨e2, h3, h4⟩⟩ := hT
 have f1 : Tryz.laysC174_ren.f 174 = 87 := rfl
 rcases h : Lib.parseIntB 64 s.data.toList with n | _ | _
 ·have hc := Any.strconv_ParseInt_10_at64_ok (P := Tryz.prog) (ρ := Tryz.laysC174_ren) Tryz.laysC174 s (by omega) n h w
  rw [f1] at hc
  refine hc.mono fun e w' ⟨he, hw⟩ => ⟨_, _, he, ?_, .inl ⟨rfl, n, rfl, rfl⟩⟩
  rcases hw with rfl | ⟨t, rfl⟩
  ·exact Below.refl _ _
  ·exact Lib.bytesWorld_below _ _ _
 ·have hc := Any.strconv_ParseInt_10_at64_syntax (P := Tryz.prog) (ρ := Tryz.laysC174_ren) Tryz.laysC174 s hs h e1 w h1 h2
  rw [f1] at hc
  exact hc.mono fun e w' ⟨N, he, _, _, hb⟩ => ⟨_, _, he, hb, .inr ⟨⟨_, _, rfl⟩, ⟨_, rfl⟩, fun _ h6 => by cases h6⟩⟩
 ·have hc := Any.strconv_ParseInt_10_at64_range (P := Tryz.prog) (ρ := Tryz.laysC174_ren) Tryz.laysC174 s hs h e2 w h3 h4
  rw [f1] at hc
  exact hc.mono fun e w' ⟨N, he, _, _, hb⟩ => ⟨_, _, he, hb, .inr ⟨⟨_, _, rfl⟩, ⟨_, rfl⟩, fun _ h6 => by cases h6⟩⟩
theorem ri_dec (v : Int) (h0 : -1000000000000000 ≤ v) (h1 : v ≤ 1000000000000000) : impl_Decimal.f v = some (⟨(Lib.itoa v).toArray⟩ : ByteArray) := by
 unfold impl_Decimal.f strconv_FormatInt.f
 rw [if_pos ⟨rfl, by omega, by omega⟩]; try rfl
set_option maxHeartbeats 8000000 in
set_option maxRecDepth 100000 in
theorem impl_readInteger.calls (a0 : ByteArray) (a1 : Int) (r0 : Int) (r1 : Bool) (w : World) (hT : LibW w) (h : impl_readInteger.f a0 a1 = some (r0, r1)) :
 Calls Tryz.prog 57 #[.string a0, .int .i64 a1] w fun e w' => e = .returned (.tuple #[.int .i64 r0, .bool r1]) ∧ Below w.heap.size w w' := by
 unfold impl_readInteger.f at h
 by_cases hc : a1 = 1000000000000000 ∧ a0.size ≤ 281474976710656
 rotate_left
 ·rw [if_neg hc] at h; cases h
 rw [if_pos hc] at h
 obtain ⟨rfl, hs⟩ := hc
 have h := Option.some.inj h
 have HS := Aside0.mk hs
 have HT := Aside0.mk hT
 have HH := Aside0.mk h
 clear hs hT h
 have HB0 := Aside0.mk (Below.refl w.heap.size w)
 have hp := ri_parse a0 HS.out w HT.out
 have key : ∀ (v u : Value) (w1 : World), Below w.heap.size w w1 → ((u = .nilIface ∧ ∃ n, Lib.parseIntB 64 a0.data.toList = .ok n ∧ v = .int .i64 n) ∨ ((∃ t p, u = .iface t p) ∧ (∃ n, v = .int .i64 n) ∧ ∀ n, Lib.parseIntB 64 a0.data.toList ≠ .ok n)) → True := fun _ _ _ _ _ => trivial
 clear key
 go_enter Tryz.func57, Tryz.ntmps57
 go_wp2_with (go_at_call 87; refine hp.mono ?_)
 rintro e w1 ⟨v, u, rfl, hb, hcase⟩
 have HB := Aside0.mk hb
 clear hb
 have HT1 := Aside0.mk (tabBelow HT.out HB.out)
 rcases hcase with ⟨rfl, n, hn, rfl⟩ | ⟨⟨t, p, rfl⟩, ⟨n, rfl⟩, hno⟩
 ·have hr := HH.out
  unfold rdInt at hr
  rw [hn] at hr
  have HN := Aside0.mk hn
  clear hn
  by_cases hin : -1000000000000000 ≤ n ∧ n ≤ 1000000000000000
  ·have hw := Aside0.mk (show impl_within.f n (-1000000000000000) 1000000000000000 = some true by unfold impl_within.f; rw [if_pos hin.1, decide_eq_true hin.2])
   have hd := Aside0.mk (ri_dec n hin.1 hin.2)
   obtain ⟨t, ht⟩ : ∃ t : ByteArray, t = ⟨(Lib.itoa n).toArray⟩ := ⟨_, rfl⟩
   rw [← ht] at hd
   simp only [← ht] at hr
   clear ht
   by_cases he : t = a0
   ·subst he
    rw [if_pos ⟨hin, rfl⟩] at hr
    obtain ⟨rfl, rfl⟩ := Prod.mk.inj hr
    clear hin hr
    have hnn : (t.toList != t.toList) = false := bne_self_eq_false _
    go_wp2_with (first | (go_at_call 45; (with_reducible refine (impl_within.calls n (-1000000000000000) 1000000000000000 true _ hw.out).mono ?_); rintro e w2 ⟨rfl, ⟨nd, rfl⟩⟩) | (go_at_call 66; (with_reducible refine (impl_Decimal.calls n t _ ?tb hd.out).mono ?_); (case tb => exact tabBelow HT1.out (pw_below_drewN (Below.refl _ _) _)); rintro e w3 ⟨rfl, hb3⟩; have HB3 := Aside0.mk (below_step (pw_below_drewN HB.out _) hb3); clear hb3))
    go_ret2
    exact ⟨rfl, HB3.out⟩
   ·rw [if_neg (fun h => he h.2)] at hr
    obtain ⟨rfl, rfl⟩ := Prod.mk.inj hr
    clear hin hr
    have hnn : (t.toList == a0.toList) = false := beq_eq_false_iff_ne.2 (fun e => he (by rw [Lib.toList_data, Lib.toList_data] at e; exact ByteArray.ext (Array.ext' e)))
    have hnn2 : (t.toList != a0.toList) = true := by rw [bne, hnn]; rfl
    clear he
    go_wp2_with (first | (go_at_call 45; (with_reducible refine (impl_within.calls n (-1000000000000000) 1000000000000000 true _ hw.out).mono ?_); rintro e w2 ⟨rfl, ⟨nd, rfl⟩⟩) | (go_at_call 66; (with_reducible refine (impl_Decimal.calls n t _ ?tb hd.out).mono ?_); (case tb => exact tabBelow HT1.out (pw_below_drewN (Below.refl _ _) _)); rintro e w3 ⟨rfl, hb3⟩; have HB3 := Aside0.mk (below_step (pw_below_drewN HB.out _) hb3); clear hb3))
    go_ret2
    exact ⟨rfl, HB3.out⟩
  ·have hw := Aside0.mk (show impl_within.f n (-1000000000000000) 1000000000000000 = some false by
    unfold impl_within.f
    by_cases h1 : n ≥ -1000000000000000
    ·rw [if_pos h1, decide_eq_false (fun h2 => hin ⟨h1, h2⟩)]
    ·rw [if_neg h1])
   simp only [hin, false_and, if_false] at hr
   obtain ⟨rfl, rfl⟩ := Prod.mk.inj hr
   clear hin hr
   go_wp2_with (first | (go_at_call 45; (with_reducible refine (impl_within.calls n (-1000000000000000) 1000000000000000 false _ hw.out).mono ?_); rintro e w2 ⟨rfl, ⟨nd, rfl⟩⟩))
   go_ret2
   exact ⟨rfl, pw_below_drewN HB.out _⟩
 ·have hr := HH.out
  unfold rdInt at hr
  rcases hq : Lib.parseIntB 64 a0.data.toList with m | _ | _
  ·exact absurd hq (hno m)
  all_goals
   rw [hq] at hr
   obtain ⟨rfl, rfl⟩ := Prod.mk.inj hr
   clear hr hno hq
   go_wp2
   go_ret2
   exact ⟨rfl, HB.out⟩
def impl_ReadDecimal.f (a0 : ByteArray) : Option (Int × Bool) := (impl_readInteger.f a0 1000000000000000).bind fun bt286 => (some (bt286.1, bt286.2))
set_option maxHeartbeats 8000000 in
set_option maxRecDepth 100000 in
theorem impl_ReadDecimal.calls (a0 : ByteArray) (r1 : Int) (r2 : Bool) (w : World) (hT : LibW w) (h : impl_ReadDecimal.f a0 = some (r1, r2)) :
 Calls Tryz.prog 41 #[.string a0] w fun e w' => e = .returned (.tuple #[.int .i64 r1, .bool r2]) ∧ Below w.heap.size w w' := by
 have HT := Aside0.mk hT
 clear hT
 have HB := Aside0.mk (Below.refl w.heap.size w)
 have H : ((impl_readInteger.f a0 1000000000000000).bind fun bt286 => (some (bt286.1, bt286.2))) = some (r1, r2) := h
 clear h
 replace H := Option.bind_eq_some_iff.mp H
 obtain ⟨⟨t286, t287⟩, A20, H⟩ := H
 try dsimp only at H
 have A2 := Aside0.mk A20
 clear A20
 simp only [Option.some.injEq, Prod.mk.injEq] at H
 obtain ⟨rfl, rfl⟩ := H
 go_enter Tryz.func41, Tryz.ntmps41
 go_wp2_with (first | ((with_reducible refine gate_callee (f := 57) rfl ?_); refine goesL_ (some 5) rfl rfl Tryz.func57 Ql0_ rfl #[.string a0, .int .i64 1000000000000000] rfl Qb0_ ?_; (with_reducible refine (impl_readInteger.calls a0 1000000000000000 t286 t287 _ ?tb A2.out).mono ?_); (case tb => exact Qk1_); rintro e w3 ⟨rfl, hb⟩; refine ⟨_, rfl, ?_⟩; have n0_ := Aside0.mk (below_step Qa0_ hb); clear HB; have HB := n0_; clear n0_; (try clear hb); (try clear hb2); (try clear hk); (try clear hi)))
 go_ret2
 exact ⟨Qh0_, Qa0_⟩
def impl_ReadList.l0 : Nat → List Int → List ByteArray → Int → Int → Option (List Int × Bool)
 | 0, _, _, _, _ => none
 | k + 1, x4, x14, x15, x16 => if x16 < x15 then (if 0 ≤ x16 then (if x16 < (x14.length : Int) then ((impl_ReadDecimal.f (rdOf ByteArray.empty x14 x16)).bind fun bt295 => (if bt295.2 = true then (if (x4.length : Int) = 64 then (some (([] : List Int), false)) else (if x4.length < 17592186044416 then (impl_ReadList.l0 k (x4 ++ [bt295.1]) x14 x15 (wrap64 (x16 + 1))) else (none))) else (some (([] : List Int), false)))) else (none)) else (none)) else (some (x4, true))
def impl_ReadList.f (k : Nat) (a0 : ByteArray) : Option (List Int × Bool) := (some (([] : List Int) : List Int)).bind fun y288 => (if a0.toList = ([110, 111, 110, 101] : List UInt8) then (some (y288, true)) else ((strings_Split.f a0 (⟨#[44]⟩ : ByteArray)).bind fun t291 => (impl_ReadList.l0 k y288 t291 (t291.length : Int) 0)))
set_option maxHeartbeats 8000000 in
set_option maxRecDepth 100000 in
theorem impl_ReadList.calls (k : Nat) (a0 : ByteArray) (r1 : List Int) (r2 : Bool) (w : World) (hT : LibW w) (h : impl_ReadList.f k a0 = some (r1, r2)) :
 Calls Tryz.prog 42 #[.string a0] w fun e w' => ∃ v0_ : Value, e = .returned (.tuple #[v0_, .bool r2]) ∧ Kd.R (Kd.int .i64) 2 w' w.heap.size (fun _ => True) v0_ r1 ∧ Below w.heap.size w w' := by
 have HT := Aside0.mk hT
 clear hT
 have HB := Aside0.mk (Below.refl w.heap.size w)
 have H : ((some (([] : List Int) : List Int)).bind fun y288 => (if a0.toList = ([110, 111, 110, 101] : List UInt8) then (some (y288, true)) else ((strings_Split.f a0 (⟨#[44]⟩ : ByteArray)).bind fun t291 => (impl_ReadList.l0 k y288 t291 (t291.length : Int) 0)))) = some (r1, r2) := h
 clear h
 obtain ⟨y288, hy288⟩ : ∃ y_ : List Int, y_ = (([] : List Int)) := ⟨_, rfl⟩
 replace H : (if a0.toList = ([110, 111, 110, 101] : List UInt8) then (some (y288, true)) else ((strings_Split.f a0 (⟨#[44]⟩ : ByteArray)).bind fun t291 => (impl_ReadList.l0 k y288 t291 (t291.length : Int) 0))) = some (r1, r2) := by first | (rw [hy288]; with_reducible exact H) | (have H2_ := (Option.bind_some _ _).symm.trans H; rw [hy288]; with_reducible exact H2_) | (have H2_ := (Option.bind_some _ _).symm.trans H; with_reducible exact H2_) | with_reducible exact H | (rw [hy288]; exact H) | exact H
 have Ny288 := Aside0.mk hy288
 clear hy288
 by_cases c2 : a0.toList = ([110, 111, 110, 101] : List UInt8)
 ·rw [if_pos c2] at H
  have c2b0 := beq_iff_eq.mpr c2
  have c2b1 := bne_eq_false_iff_eq.mpr c2
  clear c2
  simp only [Option.some.injEq, Prod.mk.injEq] at H
  obtain ⟨rfl, rfl⟩ := H
  go_enter Tryz.func42, Tryz.ntmps42
  go_wp2_with (first | ((with_reducible refine gate_dst (N := 9) rfl ?_); (try (refine gate_guard (by rfl) ?_; dsimp only)); refine Kd.R_lit (Kd.int .i64) _ 2 ?hg (N := 9) ?hd (xs := ([] : List Int)) (inner := []) (ok := fun _ => True) (okp := fun _ => True) ?hr ?hp (fun _ hk => hk) trivial (Below.refl _ _) (Nat.le_refl _) (by simp) ?_; (case hd => rfl); (case hg => rfl); (case hr => exact Qj0_); (case hp => exact (Reps.none _ _)); intro v289 w3 ho4 hb hg_ hnew_; clear hg_ hnew_; (first | rw [← Ny288.out] at ho4 | (simp only [Int.reduceToNat] at ho4; rw [← Ny288.out] at ho4)); have n0_ := Aside0.mk (Kd.R_lower ho4 (below_size Qa0_)); have n1_ := Aside0.mk (below_step Qa0_ hb); clear HB; have HO290 := n0_; have HB := n1_; clear n0_ n1_; clear hb ho4))
  go_ret2
  exact ⟨_, Qh0_, Qr_ HO290.out, Qa0_⟩
 ·rw [if_neg c2] at H
  have c2b0 := beq_eq_false_iff_ne.mpr c2
  have c2b1 := bne_iff_ne.mpr c2
  replace H := Option.bind_eq_some_iff.mp H
  obtain ⟨t291, A50, H⟩ := H
  try dsimp only at H
  have A5 := Aside0.mk A50
  clear A50
  have H' := Aside0.mk H
  clear H
  go_enter Tryz.func42, Tryz.ntmps42
  go_wp2_with (first | ((with_reducible refine gate_dst (N := 9) rfl ?_); (try (refine gate_guard (by rfl) ?_; dsimp only)); refine Kd.R_lit (Kd.int .i64) _ 2 ?hg (N := 9) ?hd (xs := ([] : List Int)) (inner := []) (ok := fun _ => True) (okp := fun _ => True) ?hr ?hp (fun _ hk => hk) trivial (Below.refl _ _) (Nat.le_refl _) (by simp) ?_; (case hd => rfl); (case hg => rfl); (case hr => exact Qj0_); (case hp => exact (Reps.none _ _)); intro v289 w6 ho7 hb hg_ hnew_; clear hg_ hnew_; (first | rw [← Ny288.out] at ho7 | (simp only [Int.reduceToNat] at ho7; rw [← Ny288.out] at ho7)); have n0_ := Aside0.mk (Kd.R_lower ho7 (below_size Qa0_)); have n1_ := Aside0.mk (below_step Qa0_ hb); clear HB; have HO290 := n0_; have HB := n1_; clear n0_ n1_; clear hb ho7) | ((with_reducible refine gate_callee (f := 18) rfl ?_); refine goesL_ (some 14) rfl rfl Tryz.func18 Ql0_ rfl #[.string a0, .string (⟨#[44]⟩ : ByteArray)] rfl Qb0_ ?_; (with_reducible refine (strings_Split.calls a0 (⟨#[44]⟩ : ByteArray) t291 _ A5.out).mono ?_); rintro e w8 ⟨v292, rfl, ho0, hb⟩; refine ⟨_, rfl, ?_⟩; have n0_ := Aside0.mk (Kd.R_below (Qr_ HO290.out) hb); have n1_ := Aside0.mk (Kd.R_lower ho0 (below_size Qa0_)); have n2_ := Aside0.mk (below_step Qa0_ hb); clear HO290; clear HB; have HO290 := n0_; have HO293 := n1_; have HB := n2_; clear n0_ n1_ n2_; (try clear hb); (try clear hb2); (try clear hk); (try clear hi); (try clear ho0); obtain ⟨Ao9, co9, eo9⟩ := Kd.R_slice HO293.out; subst eo9))
  go_loopg [4, 16] k (fun kq v4 v16 w' => ∃ (x4_1 : List Int) (x16_1 : Int), v16 = .int .i64 x16_1 ∧ Aside0 (impl_ReadList.l0 kq x4_1 t291 (t291.length : Int) x16_1 = some (r1, r2)) ∧ Aside0 (kq ≤ k) ∧ Aside0 (Kd.R (Kd.int .i64) 2 w' w.heap.size (fun _ => True) v4 x4_1) ∧ Aside0 (Kd.R Kd.string 9 w' w.heap.size (fun _ => True) (.slice Ao9 t291.length co9) t291) ∧ Aside0 (Below w.heap.size w w'))
  case atStart => exact ⟨(y288), (0), Qf0_, H', ⟨Nat.le_refl _⟩, ⟨Qr_ HO290.out⟩, ⟨Qr_ HO293.out⟩, ⟨Qa0_⟩⟩
  case round =>
   clear H'
   try clear c1
   try clear c2
   try clear c2b0
   try clear c2b1
   try clear p2
   try clear c4
   obtain ⟨x4_1, x16_1, rfl, HA, HK1, HO_4, HO_14, HB⟩ := hrel
   cases gk with
   | zero => exact absurd HA.out (by simp [impl_ReadList.l0])
   | succ k1 =>
    have H := HA.out
    clear HA
    simp only [impl_ReadList.l0] at H
    by_cases c10 : x16_1 < (t291.length : Int)
    ·rw [if_pos c10] at H
     have c10b0 := decide_eq_true c10
     clear c10
     by_cases c11 : 0 ≤ x16_1
     ·rw [if_pos c11] at H
      have c11b0 := decide_eq_true c11
      clear c11
      by_cases c12 : x16_1 < (t291.length : Int)
      ·rw [if_pos c12] at H
       have c12b0 := decide_eq_true c12
       clear c12
       replace H := Option.bind_eq_some_iff.mp H
       obtain ⟨⟨t295, t296⟩, A130, H⟩ := H
       try dsimp only at H
       have A13 := Aside0.mk A130
       clear A130
       by_cases c14 : t296 = true
       ·subst c14
        rw [if_pos rfl] at H
        have H1 := H
        clear H
        have H := H1
        clear H1
        by_cases c15 : (x4_1.length : Int) = 64
        ·rw [if_pos c15] at H
         have c15b0 := beq_iff_eq.mpr c15
         have c15b1 := bne_eq_false_iff_eq.mpr c15
         clear c15
         simp only [Option.some.injEq, Prod.mk.injEq] at H
         obtain ⟨rfl, rfl⟩ := H
         have p294 : 0 ≤ (x16_1 : Int) := of_decide_eq_true Qg0_
         have q294 : x16_1 < (t291.length : Int) := of_decide_eq_true Qg0_
         obtain ⟨ad294, e294, hx294_0⟩ := Kd.at_string (Kd.R_reads' HO_14.out).2.2 x16_1 p294 q294
         cases e294
         replace p294 := eq_true p294
         replace q294 := eq_true q294
         go_wp2_with (first | ((with_reducible refine gate_callee (f := 41) rfl ?_); refine goesL_ (some 22) rfl rfl Tryz.func41 Ql0_ rfl #[.string (rdOf ByteArray.empty t291 x16_1)] rfl Qb0_ ?_; (with_reducible refine (impl_ReadDecimal.calls (rdOf ByteArray.empty t291 x16_1) t295 true _ ?tb A13.out).mono ?_); (case tb => exact Qk1_); rintro e w16 ⟨rfl, hb⟩; refine ⟨_, rfl, ?_⟩; have n0_ := Aside0.mk (Kd.R_below (Qr_ HO_4.out) hb); have n1_ := Aside0.mk (Kd.R_below (Qr_ HO_14.out) hb); have n2_ := Aside0.mk (below_step Qa0_ hb); clear HO_4; clear HO_14; clear HB; have HO_4 := n0_; have HO_14 := n1_; have HB := n2_; clear n0_ n1_ n2_; (try clear hb); (try clear hb2); (try clear hk); (try clear hi); obtain ⟨Ao17, co17, eo17⟩ := Kd.R_slice HO_4.out; subst eo17))
         go_ret2
         exact ⟨_, Qh0_, Qw0_, Qa0_⟩
        ·rw [if_neg c15] at H
         have c15b0 := beq_eq_false_iff_ne.mpr c15
         have c15b1 := bne_iff_ne.mpr c15
         by_cases c18 : x4_1.length < 17592186044416
         ·rw [if_pos c18] at H
          have LMc18 := Aside0.mk c18
          clear c18
          obtain ⟨y297, hy297⟩ : ∃ y_ : List Int, y_ = (x4_1 ++ [t295]) := ⟨_, rfl⟩
          replace H : (impl_ReadList.l0 k1 y297 t291 (t291.length : Int) (wrap64 (x16_1 + 1))) = some (r1, r2) := by first | (rw [hy297]; with_reducible exact H) | (have H2_ := (Option.bind_some _ _).symm.trans H; rw [hy297]; with_reducible exact H2_) | (have H2_ := (Option.bind_some _ _).symm.trans H; with_reducible exact H2_) | with_reducible exact H | (rw [hy297]; exact H) | exact H
          have Ny297 := Aside0.mk hy297
          clear hy297
          have H' := Aside0.mk H
          clear H
          have p294 : 0 ≤ (x16_1 : Int) := of_decide_eq_true Qg0_
          have q294 : x16_1 < (t291.length : Int) := of_decide_eq_true Qg0_
          obtain ⟨ad294, e294, hx294_0⟩ := Kd.at_string (Kd.R_reads' HO_14.out).2.2 x16_1 p294 q294
          cases e294
          replace p294 := eq_true p294
          replace q294 := eq_true q294
          go_wp2_with (first | ((with_reducible refine gate_callee (f := 41) rfl ?_); refine goesL_ (some 22) rfl rfl Tryz.func41 Ql0_ rfl #[.string (rdOf ByteArray.empty t291 x16_1)] rfl Qb0_ ?_; (with_reducible refine (impl_ReadDecimal.calls (rdOf ByteArray.empty t291 x16_1) t295 true _ ?tb A13.out).mono ?_); (case tb => exact Qk1_); rintro e w19 ⟨rfl, hb⟩; refine ⟨_, rfl, ?_⟩; have n0_ := Aside0.mk (Kd.R_below (Qr_ HO_4.out) hb); have n1_ := Aside0.mk (Kd.R_below (Qr_ HO_14.out) hb); have n2_ := Aside0.mk (below_step Qa0_ hb); clear HO_4; clear HO_14; clear HB; have HO_4 := n0_; have HO_14 := n1_; have HB := n2_; clear n0_ n1_ n2_; (try clear hb); (try clear hb2); (try clear hk); (try clear hi); obtain ⟨Ao20, co20, eo20⟩ := Kd.R_slice HO_4.out; subst eo20) | ((with_reducible refine gate_builtin (b := .append) (xs := #[.tmp 32, .tmp 34]) rfl ?_); (try (refine gate_guard (by rfl) ?_; dsimp only)); at_builtin; refine Kd.R_append (Kd.int .i64) (w0 := w) w.heap.size rfl (.tmp 32) (.tmp 34) 61 2 (.int .i64 0) 8 rfl Tryz.underlying61 info2 rfl (by decide) (by omega) (.slice Ao20 x4_1.length co20) x4_1 t295 [.int .i64 t295] (fun _ => True) (fun _ => False) rfl rfl ?aP (fun _ hk => hk.elim) ?aF ?aO ?aB ?aS ?aL ?_; (case aP => exact rfl); (case aB => exact Qa0_); (case aF => exact (fun _ _ => trivial)); (case aO => exact (Qr_ HO_4.out)); (case aS => exact (below_size Qa0_)); (case aL => have := LMc18.out; omega); intro v298 w21 ho hb hg hat; rw [← Ny297.out] at ho; have n0_ := Aside0.mk (Kd.R_over' (Qr_ HO_14.out) (Kd.R_typed (Qr_ HO_4.out)) (by decide) hg); have n1_ := Aside0.mk (hb); have n2_ := Aside0.mk (ho); clear HO_14; clear HB; clear HO_4; have HO_14 := n0_; have HB := n1_; have HO299 := n2_; clear n0_ n1_ n2_; clear ho hb hg hat))
          go_roundg k1
          case measure => have := HK1.out; omega
          case rel => exact ⟨(y297), (wrap64 (x16_1 + 1)), Qf0_, H', ⟨Qs0_⟩, ⟨Qr_ HO299.out⟩, ⟨Qr_ HO_14.out⟩, ⟨Qa0_⟩⟩
         ·rw [if_neg c18] at H
          exact absurd H (by simp)
       ·replace c14 := Bool.eq_false_iff.mpr c14
        subst c14
        rw [if_neg (show ¬ (false = true) by decide)] at H
        have H1 := H
        clear H
        have H := H1
        clear H1
        simp only [Option.some.injEq, Prod.mk.injEq] at H
        obtain ⟨rfl, rfl⟩ := H
        have p294 : 0 ≤ (x16_1 : Int) := of_decide_eq_true Qg0_
        have q294 : x16_1 < (t291.length : Int) := of_decide_eq_true Qg0_
        obtain ⟨ad294, e294, hx294_0⟩ := Kd.at_string (Kd.R_reads' HO_14.out).2.2 x16_1 p294 q294
        cases e294
        replace p294 := eq_true p294
        replace q294 := eq_true q294
        go_wp2_with (first | ((with_reducible refine gate_callee (f := 41) rfl ?_); refine goesL_ (some 22) rfl rfl Tryz.func41 Ql0_ rfl #[.string (rdOf ByteArray.empty t291 x16_1)] rfl Qb0_ ?_; (with_reducible refine (impl_ReadDecimal.calls (rdOf ByteArray.empty t291 x16_1) t295 false _ ?tb A13.out).mono ?_); (case tb => exact Qk1_); rintro e w22 ⟨rfl, hb⟩; refine ⟨_, rfl, ?_⟩; have n0_ := Aside0.mk (Kd.R_below (Qr_ HO_4.out) hb); have n1_ := Aside0.mk (Kd.R_below (Qr_ HO_14.out) hb); have n2_ := Aside0.mk (below_step Qa0_ hb); clear HO_4; clear HO_14; clear HB; have HO_4 := n0_; have HO_14 := n1_; have HB := n2_; clear n0_ n1_ n2_; (try clear hb); (try clear hb2); (try clear hk); (try clear hi)))
        go_ret2
        exact ⟨_, Qh0_, Qw0_, Qa0_⟩
      ·rw [if_neg c12] at H
       exact absurd H (by simp)
     ·rw [if_neg c11] at H
      exact absurd H (by simp)
    ·rw [if_neg c10] at H
     have c10b0 := decide_eq_false c10
     clear c10
     simp only [Option.some.injEq, Prod.mk.injEq] at H
     obtain ⟨rfl, rfl⟩ := H
     go_wp2
     go_ret2
     exact ⟨_, Qh0_, Qr_ HO_4.out, Qa0_⟩
end Go.Proofs.YtdaeioklcilipaaGreatDoor.QFnConsole
