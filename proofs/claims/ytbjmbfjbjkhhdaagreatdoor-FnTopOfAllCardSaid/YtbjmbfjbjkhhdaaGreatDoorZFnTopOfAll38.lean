/- Made small by wip/pack.py: lemmas and contracts that the law's row leans on. -/
import Derived.Test.YtbjmbfjbjkhhdaaGreatDoorZFnTopOfAll27
import Derived.Test.YtbjmbfjbjkhhdaaGreatDoorZFnTopOfAll28
import Derived.Test.YtbjmbfjbjkhhdaaGreatDoorZFnTopOfAll29
import Derived.Test.YtbjmbfjbjkhhdaaGreatDoorZFnTopOfAll30
import Derived.Test.YtbjmbfjbjkhhdaaGreatDoorZFnTopOfAll37
namespace Go.Proofs.YtbjmbfjbjkhhdaaGreatDoor.QFnTopOfAll
open Go.RowKit Go.Proofs.YtbjmbfjbjkhhdaaGreatDoorW.PrintWords Go.Proofs.YtbjmbfjbjkhhdaaGreatDoorW.PrintLast Go.Proofs.YtbjmbfjbjkhhdaaGreatDoorW.PrintMore
attribute [local go_sem] max2_int min2_int max_two min_two max_three min_three max_four min_four
set_option linter.unusedVariables false
set_option linter.unusedSimpArgs false
def impl_copyConsole.f (l0_0 : List ByteArray) (l0_1 : List ByteArray) : Option (List ByteArray × List ByteArray) := (slices_Clone_string_string.f l0_0).bind fun t285 => ((slices_Clone_string_string.f l0_1).bind fun t288 => (some (t285, t288)))
def impl_copyConsole.T1 : Bool × List (List Nat × List Nat) := (true, [([], []), ([0], [0]), ([1], [1]), ([], []), ([3], [3]), ([4, 2], [4]), ([2, 5], [2, 5]), ([6, 5, 0, 1, 2, 3, 4, 5, 6], [6])])
def impl_copyConsole.B1 : List Nat := [0, 1, 3, 0, 8, 31, 63, 127]
theorem impl_copyConsole.tab1 : rtab .any (opsOf Tryz.f56 1) = impl_copyConsole.T1 := by kernel_rfl
theorem impl_copyConsole.bits1 : waitsOk impl_copyConsole.T1.2 impl_copyConsole.B1 = true := by kernel_rfl
set_option maxHeartbeats 8000000 in
set_option maxRecDepth 100000 in
theorem impl_copyConsole.calls (A0_0 : Option Addr) (c0_0 : Nat) (l0_0 : List ByteArray) (A0_1 : Option Addr) (c0_1 : Nat) (l0_1 : List ByteArray) (r1 : List ByteArray) (r2 : List ByteArray) (w : World) (hr0_0 : Kd.C Kd.string w A0_0 l0_0.length l0_0) (hc0_0 : l0_0.length ≤ c0_0) (hr0_1 : Kd.C Kd.string w A0_1 l0_1.length l0_1) (hc0_1 : l0_1.length ≤ c0_1) (h : impl_copyConsole.f l0_0 l0_1 = some (r1, r2)) :
 Calls Tryz.prog 56 #[.agg #[.slice A0_0 l0_0.length c0_0, .slice A0_1 l0_1.length c0_1]] w fun e w' => ∃ v0_ v1_ : Value, e = .returned (.agg #[v0_, v1_]) ∧ Kd.R Kd.string 9 w' w.heap.size (fun k_ => some k_ ≠ (v1_ : Value).ownBlock) v0_ r1 ∧ Kd.R Kd.string 9 w' w.heap.size (fun k_ => some k_ ≠ (v0_ : Value).ownBlock) v1_ r2 ∧ Below w.heap.size w w' := by
 have hu39 := Tryz.underlying39
 have HR0_0 := Aside0.mk hr0_0
 have HC0_0 := Aside0.mk hc0_0
 clear hr0_0 hc0_0
 have HR0_1 := Aside0.mk hr0_1
 have HC0_1 := Aside0.mk hc0_1
 clear hr0_1 hc0_1
 have HB := Aside0.mk (Below.refl w.heap.size w)
 have H : ((slices_Clone_string_string.f l0_0).bind fun t285 => ((slices_Clone_string_string.f l0_1).bind fun t288 => (some (t285, t288)))) = some (r1, r2) := h
 clear h
 replace H := Option.bind_eq_some_iff.mp H
 obtain ⟨t285, A20, H⟩ := H
 try dsimp only at H
 have A2 := Aside0.mk A20
 clear A20
 replace H := Option.bind_eq_some_iff.mp H
 obtain ⟨t288, A30, H⟩ := H
 try dsimp only at H
 have A3 := Aside0.mk A30
 clear A30
 simp only [Option.some.injEq, Prod.mk.injEq] at H
 obtain ⟨rfl, rfl⟩ := H
 go_enter Tryz.func56, Tryz.ntmps56
 try go_wp2_with (first | ((with_reducible refine gate_dst (N := 1) rfl ?_); refine box_event ?hg (N := 1) ?hd (cs := #[.slice A0_0 l0_0.length c0_0, .slice A0_1 l0_1.length c0_1]) (t := 39) ?hr ?_; (case hd => rfl); (case hg => rfl); (case hr => exact Qh0_); intro gb283 hg w4 hbox hb; have n0_ := Aside0.mk (below_step Qa0_ hb); have n1_ := Aside0.mk (hbox); have n2_ := Aside0.mk ((Qp1_ : w.heap.size ≤ gb283)); have n3_ := Aside0.mk ((Qp1_ : w.heap.size ≤ gb283)); clear HB; have HB := n0_; have BK283 := n1_; have GW283 := n2_; have GE283 := n3_; clear n0_ n1_ n2_ n3_; clear hb hbox hg) | ((with_reducible refine gate_dst (N := 2) rfl ?_); refine box_event ?hg (N := 2) ?hd (cs := #[.slice none 0 0, .slice none 0 0]) (t := 39) ?hr ?_; (case hd => rfl); (case hg => rfl); (case hr => exact Qh0_); intro gb284 hg w5 hbox hb; have n0_ := Aside0.mk (blk_below (g := gb283) (o := .cells #[.slice A0_0 l0_0.length c0_0, .slice A0_1 l0_1.length c0_1] 39 (0, 0)) (Qk_ BK283.out) hb); have n1_ := Aside0.mk (below_step (Qg_ GE283.out) hb); have n2_ := Aside0.mk (hbox); have n3_ := Aside0.mk ((by rw [hg]; exact (below_size (Qg_ GE283.out)) : w.heap.size ≤ gb284)); have n4_ := Aside0.mk ((by rw [hg]; exact (below_size (Qg_ GE283.out)) : w.heap.size ≤ gb284)); have n5_ := Aside0.mk ((by rw [hg]; exact Nat.ne_of_lt (blk_lt (g := gb283) (o := .cells #[.slice A0_0 l0_0.length c0_0, .slice A0_1 l0_1.length c0_1] 39 (0, 0)) (Qk_ BK283.out)) : gb283 ≠ gb284)); have n6_ := Aside0.mk ((by rw [hg]; exact Nat.ne_of_gt (blk_lt (g := gb283) (o := .cells #[.slice A0_0 l0_0.length c0_0, .slice A0_1 l0_1.length c0_1] 39 (0, 0)) (Qk_ BK283.out)) : gb284 ≠ gb283)); clear BK283; clear HB; have BK283 := n0_; have HB := n1_; have BK284 := n2_; have GW284 := n3_; have GE284 := n4_; have NB283_284 := n5_; have NB284_283 := n6_; clear n0_ n1_ n2_ n3_ n4_ n5_ n6_; clear hb hbox hg))
 have n0_ := Aside0.mk (blk_drew BK283.out)
 have n1_ := Aside0.mk (blk_drew BK284.out)
 have n2_ := Aside0.mk (below_drew1 HB.out)
 clear BK283
 clear BK284
 clear HB
 have BK283 := n0_
 have BK284 := n1_
 have HB := n2_
 clear n0_ n1_ n2_
 refine start_ (n := 8) (S := fun w' => w'.cell? ⟨gb283, 0, none⟩ = some (.slice A0_0 l0_0.length c0_0) ∧ w'.cell? ⟨gb283, 1, none⟩ = some (.slice A0_1 l0_1.length c0_1)) (ds := []) #[false, false, false, false, false, false, false, false] Qi0_ rfl rfl ⟨(blk_cell BK283.out 0).trans rfl, (blk_cell BK283.out 1).trans rfl⟩ (fun hHeld => ?_); refine with_tabW impl_copyConsole.tab1 impl_copyConsole.bits1 (fun HT_ HW_ => ?_)
 generalize w5.drew = w6 at BK283 BK284 HB hHeld ⊢
 refine pure_ (i := 0) (N := some 3) (v := ?_) (a' := ?_) #[true, false, false, false, false, false, false, false] rfl rfl (any_of HT_.out Qi0_) (fun _ _ _ h => h) (Or.inl ⟨by rfl, ?_⟩) ?_ ?_
 rotate_left
 ·intro w'
  go_simp
  with_reducible rfl
 rotate_left
 ·simp only [Act.put, List.setIfInBounds_toArray, List.set_cons_zero, List.set_cons_succ, i64_w, i32_w]
  rfl
 refine pure_ (i := 3) (N := some 6) (v := ?_) (a' := ?_) #[true, false, false, true, false, false, false, false] rfl rfl (any_of HT_.out Qi0_) (fun _ _ _ h => h) (Or.inl ⟨by rfl, ?_⟩) ?_ ?_
 rotate_left
 ·intro w'
  go_simp
  with_reducible rfl
 rotate_left
 ·simp only [Act.put, List.setIfInBounds_toArray, List.set_cons_zero, List.set_cons_succ, i64_w, i32_w]
  rfl
 refine take_ (i := 1) (N := some 4) (v := ?_) (a' := ?_) #[true, true, false, true, false, false, false, false] rfl rfl (take_ofW HT_.out HW_.out Qi0_) (fun _ _ _ h => h) (Or.inl ⟨by rfl, ?_⟩) hHeld ?_ ?_
 rotate_left
 ·rintro w' ⟨s0, s1⟩
  go_simp
  with_reducible rfl
 rotate_left
 ·simp only [Act.put, List.setIfInBounds_toArray, List.set_cons_zero, List.set_cons_succ, i64_w, i32_w]
  rfl
 refine take_ (i := 4) (N := some 7) (v := ?_) (a' := ?_) #[true, true, false, true, true, false, false, false] rfl rfl (take_ofW HT_.out HW_.out Qi0_) (fun _ _ _ h => h) (Or.inl ⟨by rfl, ?_⟩) hHeld ?_ ?_
 rotate_left
 ·rintro w' ⟨s0, s1⟩
  go_simp
  with_reducible rfl
 rotate_left
 ·simp only [Act.put, List.setIfInBounds_toArray, List.set_cons_zero, List.set_cons_succ, i64_w, i32_w]
  rfl
 refine one_ (i := 2) (N := some 5) #[true, true, true, true, true, false, false, false] rfl rfl (one_of HT_.out Qi0_) (by decide) (fun K hK => ?_)
 refine goes_ Tryz.func24 Qi0_ rfl #[.slice A0_0 l0_0.length c0_0] (by rfl) rfl rfl Qb0_ ?_
 with_reducible refine (slices_Clone_string_string.calls _ _ l0_0 t285 _ ?side1 ?side2 A2.out).mono ?_
 (case side1 => repeat (first | exact (Kd.C_below HR0_0.out HB.out) | (with_reducible refine Kd.C_alloc ?_ _) | (with_reducible refine Kd.C_drewN ?_ _) | (with_reducible refine Kd.C_drew ?_)))
 (case side2 => exact HC0_0.out)
 rintro e w7 ⟨v286, rfl, ho0, hb⟩
 refine ⟨_, rfl, ?_⟩
 have n0_ := Aside0.mk (Kd.R_lower ho0 (below_size Qs0_))
 have n1_ := Aside0.mk (blk_below (g := gb283) (o := .cells #[.slice A0_0 l0_0.length c0_0, .slice A0_1 l0_1.length c0_1] 39 (0, 0)) (Qk_ BK283.out) hb)
 have n2_ := Aside0.mk (blk_below (g := gb284) (o := .cells #[.slice none 0 0, .slice none 0 0] 39 (0, 0)) (Qk_ BK284.out) hb)
 have n3_ := Aside0.mk (below_step Qs0_ hb)
 clear BK283
 clear BK284
 clear HB
 have HO287 := n0_
 have BK283 := n1_
 have BK284 := n2_
 have HB := n3_
 clear n0_ n1_ n2_ n3_
 (try clear hb)
 (try clear hb2)
 (try clear hk)
 (try clear hi)
 (try clear ho0)
 refine hK.out _ _ ⟨(blk_cell BK283.out 0).trans rfl, (blk_cell BK283.out 1).trans rfl⟩ (fun hHeld => ?_)
 clear hK K
 refine norm_ (a' := ?_) ?_ ?_
 rotate_left
 ·show Act.put _ (some 5) _ = _
  simp only [Act.put, List.setIfInBounds_toArray, List.set_cons_zero, List.set_cons_succ, i64_w, i32_w]
  rfl
 refine one_ (i := 5) (N := some 8) #[true, true, true, true, true, true, false, false] rfl rfl (one_of HT_.out Qi0_) (by decide) (fun K hK => ?_)
 refine goes_ Tryz.func24 Qi0_ rfl #[.slice A0_1 l0_1.length c0_1] (by rfl) rfl rfl Qb0_ ?_
 with_reducible refine (slices_Clone_string_string.calls _ _ l0_1 t288 _ ?side1 ?side2 A3.out).mono ?_
 (case side1 => repeat (first | exact (Kd.C_below HR0_1.out HB.out) | (with_reducible refine Kd.C_alloc ?_ _) | (with_reducible refine Kd.C_drewN ?_ _) | (with_reducible refine Kd.C_drew ?_)))
 (case side2 => exact HC0_1.out)
 rintro e w8 ⟨v289, rfl, ho0, hb⟩
 refine ⟨_, rfl, ?_⟩
 have n0_ := Aside0.mk (Kd.R_elder' (Qr_ HO287.out) (Kd.R_base ho0) hb)
 have n1_ := Aside0.mk (Kd.R_lower (Kd.R_new' ho0 (Kd.R_lt (Qr_ HO287.out))) (below_size Qs0_))
 have n2_ := Aside0.mk (blk_below (g := gb283) (o := .cells #[.slice A0_0 l0_0.length c0_0, .slice A0_1 l0_1.length c0_1] 39 (0, 0)) (Qk_ BK283.out) hb)
 have n3_ := Aside0.mk (blk_below (g := gb284) (o := .cells #[.slice none 0 0, .slice none 0 0] 39 (0, 0)) (Qk_ BK284.out) hb)
 have n4_ := Aside0.mk (below_step Qs0_ hb)
 clear HO287
 clear BK283
 clear BK284
 clear HB
 have HO287 := n0_
 have HO290 := n1_
 have BK283 := n2_
 have BK284 := n3_
 have HB := n4_
 clear n0_ n1_ n2_ n3_ n4_
 (try clear hb)
 (try clear hb2)
 (try clear hk)
 (try clear hi)
 (try clear ho0)
 obtain ⟨Ao9, co9, eo9⟩ := Kd.R_slice HO290.out
 (first | subst eo9 | (injection eo9 with f1_ f2_ f3_; have f4_ := f1_.symm; have f5_ := f3_.symm; clear f1_ f2_ f3_; subst f4_; subst f5_))
 obtain ⟨Ao10, co10, eo10⟩ := Kd.R_slice HO287.out
 (first | subst eo10 | (injection eo10 with f1_ f2_ f3_; have f4_ := f1_.symm; have f5_ := f3_.symm; clear f1_ f2_ f3_; subst f4_; subst f5_))
 refine hK.out _ _ ⟨(blk_cell BK283.out 0).trans rfl, (blk_cell BK283.out 1).trans rfl⟩ (fun hHeld => ?_)
 clear hK K
 refine norm_ (a' := ?_) ?_ ?_
 rotate_left
 ·show Act.put _ (some 8) _ = _
  simp only [Act.put, List.setIfInBounds_toArray, List.set_cons_zero, List.set_cons_succ, i64_w, i32_w]
  rfl
 refine pure_ (i := 6) (N := some 9) (v := ?_) (a' := ?_) #[true, true, true, true, true, true, true, false] rfl rfl (any_of HT_.out Qi0_) (fun _ _ _ h => h) (Or.inl ⟨by rfl, ?_⟩) ?_ ?_
 rotate_left
 ·intro w'
  go_simp
  with_reducible rfl
 rotate_left
 ·simp only [Act.put, List.setIfInBounds_toArray, List.set_cons_zero, List.set_cons_succ, i64_w, i32_w]
  rfl
 refine one_ (i := 7) (N := none) #[true, true, true, true, true, true, true, true] rfl rfl (one_of HT_.out Qi0_) (by decide) (fun K hK => ?_)
 have hs11 : w8.cell? ⟨gb284, 0, none⟩ = some (.slice none 0 0) := (blk_cell BK284.out 0).trans rfl
 have hfs11 := blk_frozen BK284.out 0
 have hns11_0 := NB283_284.out
 have hms11_0 := NB284_283.out
 have hs12 : w8.cell? ⟨gb284, 1, none⟩ = some (.slice none 0 0) := (blk_cell BK284.out 1).trans rfl
 have hfs12 := blk_frozen BK284.out 1
 have hns12_0 := NB283_284.out
 have hms12_0 := NB284_283.out
 refine skip_ (w1 := ?_) (by rfl) rfl ?_ ?_
 rotate_left
 ·go_simp
  rfl
 refine hK.out _ _ ⟨((cell_far (p := ⟨gb284, _, none⟩) NB283_284.out _).trans (((cell_far (p := ⟨gb284, _, none⟩) NB283_284.out _).trans (hHeld.1)))), ((cell_far (p := ⟨gb284, _, none⟩) NB283_284.out _).trans (((cell_far (p := ⟨gb284, _, none⟩) NB283_284.out _).trans (hHeld.2))))⟩ (fun hHeld => ?_)
 clear hK K
 refine done_ (done_of HT_.out Qi0_) ?_
 try go_wp2
 refine bodyPost_ret (results_cell_row rfl _ _ gb284 39 #[.slice Ao10 t285.length co10, .slice Ao9 t288.length co9] (0, 0) _ rfl (by (with_reducible repeat (first | refine blk_drewN ?_ _ | refine blk_drew ?_ | refine blk_alloc ?_ _)); refine blk_put (cs := #[.slice Ao10 t285.length co10, .slice none 0 0]) ?_ 1 _ rfl; (with_reducible repeat (first | refine blk_drewN ?_ _ | refine blk_drew ?_ | refine blk_alloc ?_ _)); refine blk_put (cs := #[.slice none 0 0, .slice none 0 0]) ?_ 0 _ rfl; (with_reducible repeat (first | refine blk_drewN ?_ _ | refine blk_drew ?_ | refine blk_alloc ?_ _)); exact BK284.out) Tryz.underlying39 rfl Qi0_) rfl ?_
 exact ⟨_, _, Qe0_, by (with_reducible repeat (first | apply Kd.R_alloc | apply Kd.R_drewN | apply Kd.R_drew)); exact Kd.R_mono (Kd.R_far (p := ⟨gb284, 1, none⟩) (Kd.R_far (p := ⟨gb284, 0, none⟩) (Kd.R_types HO287.out BK284.out (by decide)) (fun _ hk => hk.2) (.slice Ao10 t285.length co10)) (fun _ hk => hk.2) (.slice Ao9 t288.length co9)) (fun _ hk => hk.1.2), by (with_reducible repeat (first | apply Kd.R_alloc | apply Kd.R_drewN | apply Kd.R_drew)); exact Kd.R_mono (Kd.R_far (p := ⟨gb284, 1, none⟩) (Kd.R_far (p := ⟨gb284, 0, none⟩) (Kd.R_types HO290.out BK284.out (by decide)) (fun _ hk => hk.2) (.slice Ao10 t285.length co10)) (fun _ hk => hk.2) (.slice Ao9 t288.length co9)) (fun _ hk => hk.1.2), Qs0_⟩
def rdInt (s : ByteArray) : Int × Bool := match Lib.parseIntB 64 s.data.toList with
 | .ok v => if (-1000000000000000 ≤ v ∧ v ≤ 1000000000000000) ∧ (⟨(Lib.itoa v).toArray⟩ : ByteArray) = s then (v, true) else (0, false)
 | _ => (0, false)
def impl_readInteger.f (a0 : ByteArray) (a1 : Int) : Option (Int × Bool) := if a1 = 1000000000000000 ∧ a0.size ≤ 281474976710656 then some (rdInt a0) else none
theorem ri_parse (s : ByteArray) (hs : s.size ≤ 281474976710656) (w : World) (hT : LibW w) :
 Calls Tryz.prog 176 #[.string s, .int .i64 10, .int .i64 64] w fun e w' => (∃ v u : Value, e = .returned (.tuple #[v, u]) ∧ Below w.heap.size w w' ∧ ((u = .nilIface ∧ ∃ n, Lib.parseIntB 64 s.data.toList = .ok n ∧ v = .int .i64 n) ∨ ((∃ t p, u = .iface t p) ∧ (∃ n, v = .int .i64 n) ∧ ∀ n, Lib.parseIntB 64 s.data.toList ≠ .ok n))) := by
 obtain ⟨_, ⟨e1, h1, h2⟩, ⟨e2, h3, h4⟩⟩ := hT
 have f1 : Tryz.laysC174_ren.f 174 = 176 := rfl
 rcases h : Lib.parseIntB 64 s.data.toList with n | _ | _
 ·have hc := Any.strconv_ParseInt_10_at64_ok (P := Tryz.prog) (ρ := Tryz.laysC174_ren) Tryz.laysC174 s (by omega) n h w
  rw [f1] at hc
  refine hc.mono fun e w' ⟨he, hw⟩ => ⟨_, _, he, ?_, .inl ⟨rfl, n, rfl, rfl⟩⟩
  rcases hw with rfl | ⟨t, rfl⟩
  ·exact Below.refl _ _
  ·exact Lib.bytesWorld_below _ _ _
 ·have hc := Any.strconv_ParseInt_10_at64_syntax (P := Tryz.prog) (ρ := Tryz.laysC174_ren) Tryz.laysC174 s hs h e1 w h1 h2
  rw [f1] at hc
  exact hc.mono fun e w' ⟨N, he, _, _, hb⟩ => ⟨_, _, he, hb, .inr ⟨⟨_, _, rfl⟩, ⟨_, rfl⟩, fun _ h6 => by cases h6⟩⟩
 ·have hc := Any.strconv_ParseInt_10_at64_range (P := Tryz.prog) (ρ := Tryz.laysC174_ren) Tryz.laysC174 s hs h e2 w h3 h4
  rw [f1] at hc
  exact hc.mono fun e w' ⟨N, he, _, _, hb⟩ => ⟨_, _, he, hb, .inr ⟨⟨_, _, rfl⟩, ⟨_, rfl⟩, fun _ h6 => by cases h6⟩⟩
theorem ri_dec (v : Int) (h0 : -1000000000000000 ≤ v) (h1 : v ≤ 1000000000000000) : impl_Decimal.f v = some (⟨(Lib.itoa v).toArray⟩ : ByteArray) := by
 unfold impl_Decimal.f strconv_FormatInt.f
 rw [if_pos ⟨rfl, by omega, by omega⟩]; try rfl
set_option maxHeartbeats 8000000 in
set_option maxRecDepth 100000 in
theorem impl_readInteger.calls (a0 : ByteArray) (a1 : Int) (r0 : Int) (r1 : Bool) (w : World) (hT : LibW w) (h : impl_readInteger.f a0 a1 = some (r0, r1)) :
 Calls Tryz.prog 154 #[.string a0, .int .i64 a1] w fun e w' => e = .returned (.tuple #[.int .i64 r0, .bool r1]) ∧ Below w.heap.size w w' := by
 unfold impl_readInteger.f at h
 by_cases hc : a1 = 1000000000000000 ∧ a0.size ≤ 281474976710656
 rotate_left
 ·rw [if_neg hc] at h; cases h
 rw [if_pos hc] at h
 obtain ⟨rfl, hs⟩ := hc
 have h := Option.some.inj h
 have HS := Aside0.mk hs
 have HT := Aside0.mk hT
 have HH := Aside0.mk h
 clear hs hT h
 have HB0 := Aside0.mk (Below.refl w.heap.size w)
 have hp := ri_parse a0 HS.out w HT.out
 have key : ∀ (v u : Value) (w1 : World), Below w.heap.size w w1 → ((u = .nilIface ∧ ∃ n, Lib.parseIntB 64 a0.data.toList = .ok n ∧ v = .int .i64 n) ∨ ((∃ t p, u = .iface t p) ∧ (∃ n, v = .int .i64 n) ∧ ∀ n, Lib.parseIntB 64 a0.data.toList ≠ .ok n)) → True := fun _ _ _ _ _ => trivial
 clear key
 go_enter Tryz.func154, Tryz.ntmps154
 go_wp2_with (go_at_call 176; refine hp.mono ?_)
 rintro e w1 ⟨v, u, rfl, hb, hcase⟩
 have HB := Aside0.mk hb
 clear hb
 have HT1 := Aside0.mk (tabBelow HT.out HB.out)
 rcases hcase with ⟨rfl, n, hn, rfl⟩ | ⟨⟨t, p, rfl⟩, ⟨n, rfl⟩, hno⟩
 ·have hr := HH.out
  unfold rdInt at hr
  rw [hn] at hr
  have HN := Aside0.mk hn
  clear hn
  by_cases hin : -1000000000000000 ≤ n ∧ n ≤ 1000000000000000
  ·have hw := Aside0.mk (show impl_within.f n (-1000000000000000) 1000000000000000 = some true by unfold impl_within.f; rw [if_pos hin.1, decide_eq_true hin.2])
   have hd := Aside0.mk (ri_dec n hin.1 hin.2)
   obtain ⟨t, ht⟩ : ∃ t : ByteArray, t = ⟨(Lib.itoa n).toArray⟩ := ⟨_, rfl⟩
   rw [← ht] at hd
   simp only [← ht] at hr
   clear ht
   by_cases he : t = a0
   ·subst he
    rw [if_pos ⟨hin, rfl⟩] at hr
    obtain ⟨rfl, rfl⟩ := Prod.mk.inj hr
    clear hin hr
    have hnn : (t.toList != t.toList) = false := bne_self_eq_false _
    go_wp2_with (first | (go_at_call 63; (with_reducible refine (impl_within.calls n (-1000000000000000) 1000000000000000 true _ hw.out).mono ?_); rintro e w2 ⟨rfl, ⟨nd, rfl⟩⟩) | (go_at_call 9; (with_reducible refine (impl_Decimal.calls n t _ ?tb hd.out).mono ?_); (case tb => exact tabBelow HT1.out (pw_below_drewN (Below.refl _ _) _)); rintro e w3 ⟨rfl, hb3⟩; have HB3 := Aside0.mk (below_step (pw_below_drewN HB.out _) hb3); clear hb3))
    go_ret2
    exact ⟨rfl, HB3.out⟩
   ·rw [if_neg (fun h => he h.2)] at hr
    obtain ⟨rfl, rfl⟩ := Prod.mk.inj hr
    clear hin hr
    have hnn : (t.toList == a0.toList) = false := beq_eq_false_iff_ne.2 (fun e => he (by rw [Lib.toList_data, Lib.toList_data] at e; exact ByteArray.ext (Array.ext' e)))
    have hnn2 : (t.toList != a0.toList) = true := by rw [bne, hnn]; rfl
    clear he
    go_wp2_with (first | (go_at_call 63; (with_reducible refine (impl_within.calls n (-1000000000000000) 1000000000000000 true _ hw.out).mono ?_); rintro e w2 ⟨rfl, ⟨nd, rfl⟩⟩) | (go_at_call 9; (with_reducible refine (impl_Decimal.calls n t _ ?tb hd.out).mono ?_); (case tb => exact tabBelow HT1.out (pw_below_drewN (Below.refl _ _) _)); rintro e w3 ⟨rfl, hb3⟩; have HB3 := Aside0.mk (below_step (pw_below_drewN HB.out _) hb3); clear hb3))
    go_ret2
    exact ⟨rfl, HB3.out⟩
  ·have hw := Aside0.mk (show impl_within.f n (-1000000000000000) 1000000000000000 = some false by
    unfold impl_within.f
    by_cases h1 : n ≥ -1000000000000000
    ·rw [if_pos h1, decide_eq_false (fun h2 => hin ⟨h1, h2⟩)]
    ·rw [if_neg h1])
   simp only [hin, false_and, if_false] at hr
   obtain ⟨rfl, rfl⟩ := Prod.mk.inj hr
   clear hin hr
   go_wp2_with (first | (go_at_call 63; (with_reducible refine (impl_within.calls n (-1000000000000000) 1000000000000000 false _ hw.out).mono ?_); rintro e w2 ⟨rfl, ⟨nd, rfl⟩⟩))
   go_ret2
   exact ⟨rfl, pw_below_drewN HB.out _⟩
 ·have hr := HH.out
  unfold rdInt at hr
  rcases hq : Lib.parseIntB 64 a0.data.toList with m | _ | _
  ·exact absurd hq (hno m)
  all_goals
   rw [hq] at hr
   obtain ⟨rfl, rfl⟩ := Prod.mk.inj hr
   clear hr hno hq
   go_wp2
   go_ret2
   exact ⟨rfl, HB.out⟩
def impl_ReadDecimal.f (a0 : ByteArray) : Option (Int × Bool) := (impl_readInteger.f a0 1000000000000000).bind fun bt291 => (some (bt291.1, bt291.2))
set_option maxHeartbeats 8000000 in
set_option maxRecDepth 100000 in
theorem impl_ReadDecimal.calls (a0 : ByteArray) (r1 : Int) (r2 : Bool) (w : World) (hT : LibW w) (h : impl_ReadDecimal.f a0 = some (r1, r2)) :
 Calls Tryz.prog 117 #[.string a0] w fun e w' => e = .returned (.tuple #[.int .i64 r1, .bool r2]) ∧ Below w.heap.size w w' := by
 have HT := Aside0.mk hT
 clear hT
 have HB := Aside0.mk (Below.refl w.heap.size w)
 have H : ((impl_readInteger.f a0 1000000000000000).bind fun bt291 => (some (bt291.1, bt291.2))) = some (r1, r2) := h
 clear h
 replace H := Option.bind_eq_some_iff.mp H
 obtain ⟨⟨t291, t292⟩, A20, H⟩ := H
 try dsimp only at H
 have A2 := Aside0.mk A20
 clear A20
 simp only [Option.some.injEq, Prod.mk.injEq] at H
 obtain ⟨rfl, rfl⟩ := H
 go_enter Tryz.func117, Tryz.ntmps117
 go_wp2_with (first | ((with_reducible refine gate_callee (f := 154) rfl ?_); refine goesL_ (some 5) rfl rfl Tryz.func154 Qi0_ rfl #[.string a0, .int .i64 1000000000000000] rfl Qb0_ ?_; (with_reducible refine (impl_readInteger.calls a0 1000000000000000 t291 t292 _ ?tb A2.out).mono ?_); (case tb => exact Qg0_); rintro e w3 ⟨rfl, hb⟩; refine ⟨_, rfl, ?_⟩; have n0_ := Aside0.mk (below_step Qa0_ hb); clear HB; have HB := n0_; clear n0_; (try clear hb); (try clear hb2); (try clear hk); (try clear hi)))
 go_ret2
 exact ⟨Qe0_, Qa0_⟩
def impl_ReadList.l0 : Nat → List Int → List ByteArray → Int → Int → Option (List Int × Bool)
 | 0, _, _, _, _ => none
 | k + 1, x4, x14, x15, x16 => if x16 < x15 then (if 0 ≤ x16 then (if x16 < (x14.length : Int) then ((impl_ReadDecimal.f (rdOf ByteArray.empty x14 x16)).bind fun bt300 => (if bt300.2 = true then (if (x4.length : Int) = 64 then (some (([] : List Int), false)) else (if x4.length < 17592186044416 then (impl_ReadList.l0 k (x4 ++ [bt300.1]) x14 x15 (wrap64 (x16 + 1))) else (none))) else (some (([] : List Int), false)))) else (none)) else (none)) else (some (x4, true))
def impl_ReadList.f (k : Nat) (a0 : ByteArray) : Option (List Int × Bool) := (some (([] : List Int) : List Int)).bind fun y293 => (if a0.toList = ([110, 111, 110, 101] : List UInt8) then (some (y293, true)) else ((strings_Split.f a0 (⟨#[44]⟩ : ByteArray)).bind fun t296 => (impl_ReadList.l0 k y293 t296 (t296.length : Int) 0)))
set_option maxHeartbeats 8000000 in
set_option maxRecDepth 100000 in
theorem impl_ReadList.calls (k : Nat) (a0 : ByteArray) (r1 : List Int) (r2 : Bool) (w : World) (hT : LibW w) (h : impl_ReadList.f k a0 = some (r1, r2)) :
 Calls Tryz.prog 118 #[.string a0] w fun e w' => ∃ v0_ : Value, e = .returned (.tuple #[v0_, .bool r2]) ∧ Kd.R (Kd.int .i64) 2 w' w.heap.size (fun _ => True) v0_ r1 ∧ Below w.heap.size w w' := by
 have HT := Aside0.mk hT
 clear hT
 have HB := Aside0.mk (Below.refl w.heap.size w)
 have H : ((some (([] : List Int) : List Int)).bind fun y293 => (if a0.toList = ([110, 111, 110, 101] : List UInt8) then (some (y293, true)) else ((strings_Split.f a0 (⟨#[44]⟩ : ByteArray)).bind fun t296 => (impl_ReadList.l0 k y293 t296 (t296.length : Int) 0)))) = some (r1, r2) := h
 clear h
 obtain ⟨y293, hy293⟩ : ∃ y_ : List Int, y_ = (([] : List Int)) := ⟨_, rfl⟩
 replace H : (if a0.toList = ([110, 111, 110, 101] : List UInt8) then (some (y293, true)) else ((strings_Split.f a0 (⟨#[44]⟩ : ByteArray)).bind fun t296 => (impl_ReadList.l0 k y293 t296 (t296.length : Int) 0))) = some (r1, r2) := by first | (rw [hy293]; with_reducible exact H) | (have H2_ := (Option.bind_some _ _).symm.trans H; rw [hy293]; with_reducible exact H2_) | (have H2_ := (Option.bind_some _ _).symm.trans H; with_reducible exact H2_) | with_reducible exact H | (rw [hy293]; exact H) | exact H
 have Ny293 := Aside0.mk hy293
 clear hy293
 by_cases c2 : a0.toList = ([110, 111, 110, 101] : List UInt8)
 ·rw [if_pos c2] at H
  have c2b0 := beq_iff_eq.mpr c2
  have c2b1 := bne_eq_false_iff_eq.mpr c2
  clear c2
  simp only [Option.some.injEq, Prod.mk.injEq] at H
  obtain ⟨rfl, rfl⟩ := H
  go_enter Tryz.func118, Tryz.ntmps118
  go_wp2_with (first | ((with_reducible refine gate_dst (N := 9) rfl ?_); (try (refine gate_guard (by rfl) ?_; dsimp only)); refine Kd.R_lit (Kd.int .i64) _ 2 ?hg (N := 9) ?hd (xs := ([] : List Int)) (inner := []) (ok := fun _ => True) (okp := fun _ => True) ?hr ?hp (fun _ hk => hk) trivial (Below.refl _ _) (Nat.le_refl _) (by simp) ?_; (case hd => rfl); (case hg => rfl); (case hr => exact Qh0_); (case hp => exact (Reps.none _ _)); intro v294 w3 ho4 hb hg_ hnew_; clear hg_ hnew_; (first | rw [← Ny293.out] at ho4 | (simp only [Int.reduceToNat] at ho4; rw [← Ny293.out] at ho4)); have n0_ := Aside0.mk (Kd.R_lower ho4 (below_size Qa0_)); have n1_ := Aside0.mk (below_step Qa0_ hb); clear HB; have HO295 := n0_; have HB := n1_; clear n0_ n1_; clear hb ho4))
  go_ret2
  exact ⟨_, Qe0_, Qr_ HO295.out, Qa0_⟩
 ·rw [if_neg c2] at H
  have c2b0 := beq_eq_false_iff_ne.mpr c2
  have c2b1 := bne_iff_ne.mpr c2
  replace H := Option.bind_eq_some_iff.mp H
  obtain ⟨t296, A50, H⟩ := H
  try dsimp only at H
  have A5 := Aside0.mk A50
  clear A50
  have H' := Aside0.mk H
  clear H
  go_enter Tryz.func118, Tryz.ntmps118
  go_wp2_with (first | ((with_reducible refine gate_dst (N := 9) rfl ?_); (try (refine gate_guard (by rfl) ?_; dsimp only)); refine Kd.R_lit (Kd.int .i64) _ 2 ?hg (N := 9) ?hd (xs := ([] : List Int)) (inner := []) (ok := fun _ => True) (okp := fun _ => True) ?hr ?hp (fun _ hk => hk) trivial (Below.refl _ _) (Nat.le_refl _) (by simp) ?_; (case hd => rfl); (case hg => rfl); (case hr => exact Qh0_); (case hp => exact (Reps.none _ _)); intro v294 w6 ho7 hb hg_ hnew_; clear hg_ hnew_; (first | rw [← Ny293.out] at ho7 | (simp only [Int.reduceToNat] at ho7; rw [← Ny293.out] at ho7)); have n0_ := Aside0.mk (Kd.R_lower ho7 (below_size Qa0_)); have n1_ := Aside0.mk (below_step Qa0_ hb); clear HB; have HO295 := n0_; have HB := n1_; clear n0_ n1_; clear hb ho7) | ((with_reducible refine gate_callee (f := 53) rfl ?_); refine goesL_ (some 14) rfl rfl Tryz.func53 Qi0_ rfl #[.string a0, .string (⟨#[44]⟩ : ByteArray)] rfl Qb0_ ?_; (with_reducible refine (strings_Split.calls a0 (⟨#[44]⟩ : ByteArray) t296 _ A5.out).mono ?_); rintro e w8 ⟨v297, rfl, ho0, hb⟩; refine ⟨_, rfl, ?_⟩; have n0_ := Aside0.mk (Kd.R_below (Qr_ HO295.out) hb); have n1_ := Aside0.mk (Kd.R_lower ho0 (below_size Qa0_)); have n2_ := Aside0.mk (below_step Qa0_ hb); clear HO295; clear HB; have HO295 := n0_; have HO298 := n1_; have HB := n2_; clear n0_ n1_ n2_; (try clear hb); (try clear hb2); (try clear hk); (try clear hi); (try clear ho0); obtain ⟨Ao9, co9, eo9⟩ := Kd.R_slice HO298.out; subst eo9))
  go_loopg [4, 16] k (fun kq v4 v16 w' => ∃ (x4_1 : List Int) (x16_1 : Int), v16 = .int .i64 x16_1 ∧ Aside0 (impl_ReadList.l0 kq x4_1 t296 (t296.length : Int) x16_1 = some (r1, r2)) ∧ Aside0 (kq ≤ k) ∧ Aside0 (Kd.R (Kd.int .i64) 2 w' w.heap.size (fun _ => True) v4 x4_1) ∧ Aside0 (Kd.R Kd.string 9 w' w.heap.size (fun _ => True) (.slice Ao9 t296.length co9) t296) ∧ Aside0 (Below w.heap.size w w'))
  case atStart => exact ⟨(y293), (0), Qc0_, H', ⟨Nat.le_refl _⟩, ⟨Qr_ HO295.out⟩, ⟨Qr_ HO298.out⟩, ⟨Qa0_⟩⟩
  case round =>
   clear H'
   try clear c1
   try clear c2
   try clear c2b0
   try clear c2b1
   try clear p2
   try clear c5
   obtain ⟨x4_1, x16_1, rfl, HA, HK1, HO_4, HO_14, HB⟩ := hrel
   cases gk with
   | zero => exact absurd HA.out (by simp [impl_ReadList.l0])
   | succ k1 =>
    have H := HA.out
    clear HA
    simp only [impl_ReadList.l0] at H
    by_cases c10 : x16_1 < (t296.length : Int)
    ·rw [if_pos c10] at H
     have c10b0 := decide_eq_true c10
     clear c10
     by_cases c11 : 0 ≤ x16_1
     ·rw [if_pos c11] at H
      have c11b0 := decide_eq_true c11
      clear c11
      by_cases c12 : x16_1 < (t296.length : Int)
      ·rw [if_pos c12] at H
       have c12b0 := decide_eq_true c12
       clear c12
       replace H := Option.bind_eq_some_iff.mp H
       obtain ⟨⟨t300, t301⟩, A130, H⟩ := H
       try dsimp only at H
       have A13 := Aside0.mk A130
       clear A130
       by_cases c14 : t301 = true
       ·subst c14
        rw [if_pos rfl] at H
        have H1 := H
        clear H
        have H := H1
        clear H1
        by_cases c15 : (x4_1.length : Int) = 64
        ·rw [if_pos c15] at H
         have c15b0 := beq_iff_eq.mpr c15
         have c15b1 := bne_eq_false_iff_eq.mpr c15
         clear c15
         simp only [Option.some.injEq, Prod.mk.injEq] at H
         obtain ⟨rfl, rfl⟩ := H
         have p299 : 0 ≤ (x16_1 : Int) := of_decide_eq_true Qf0_
         have q299 : x16_1 < (t296.length : Int) := of_decide_eq_true Qf0_
         obtain ⟨ad299, e299, hx299_0⟩ := Kd.at_string (Kd.R_reads' HO_14.out).2.2 x16_1 p299 q299
         cases e299
         replace p299 := eq_true p299
         replace q299 := eq_true q299
         go_wp2_with (first | ((with_reducible refine gate_callee (f := 117) rfl ?_); refine goesL_ (some 22) rfl rfl Tryz.func117 Qi0_ rfl #[.string (rdOf ByteArray.empty t296 x16_1)] rfl Qb0_ ?_; (with_reducible refine (impl_ReadDecimal.calls (rdOf ByteArray.empty t296 x16_1) t300 true _ ?tb A13.out).mono ?_); (case tb => exact Qg0_); rintro e w16 ⟨rfl, hb⟩; refine ⟨_, rfl, ?_⟩; have n0_ := Aside0.mk (Kd.R_below (Qr_ HO_4.out) hb); have n1_ := Aside0.mk (Kd.R_below (Qr_ HO_14.out) hb); have n2_ := Aside0.mk (below_step Qa0_ hb); clear HO_4; clear HO_14; clear HB; have HO_4 := n0_; have HO_14 := n1_; have HB := n2_; clear n0_ n1_ n2_; (try clear hb); (try clear hb2); (try clear hk); (try clear hi); obtain ⟨Ao17, co17, eo17⟩ := Kd.R_slice HO_4.out; subst eo17))
         go_ret2
         exact ⟨_, Qe0_, Qy0_, Qa0_⟩
        ·rw [if_neg c15] at H
         have c15b0 := beq_eq_false_iff_ne.mpr c15
         have c15b1 := bne_iff_ne.mpr c15
         by_cases c18 : x4_1.length < 17592186044416
         ·rw [if_pos c18] at H
          have LMc18 := Aside0.mk c18
          clear c18
          obtain ⟨y302, hy302⟩ : ∃ y_ : List Int, y_ = (x4_1 ++ [t300]) := ⟨_, rfl⟩
          replace H : (impl_ReadList.l0 k1 y302 t296 (t296.length : Int) (wrap64 (x16_1 + 1))) = some (r1, r2) := by first | (rw [hy302]; with_reducible exact H) | (have H2_ := (Option.bind_some _ _).symm.trans H; rw [hy302]; with_reducible exact H2_) | (have H2_ := (Option.bind_some _ _).symm.trans H; with_reducible exact H2_) | with_reducible exact H | (rw [hy302]; exact H) | exact H
          have Ny302 := Aside0.mk hy302
          clear hy302
          have H' := Aside0.mk H
          clear H
          have p299 : 0 ≤ (x16_1 : Int) := of_decide_eq_true Qf0_
          have q299 : x16_1 < (t296.length : Int) := of_decide_eq_true Qf0_
          obtain ⟨ad299, e299, hx299_0⟩ := Kd.at_string (Kd.R_reads' HO_14.out).2.2 x16_1 p299 q299
          cases e299
          replace p299 := eq_true p299
          replace q299 := eq_true q299
          go_wp2_with (first | ((with_reducible refine gate_callee (f := 117) rfl ?_); refine goesL_ (some 22) rfl rfl Tryz.func117 Qi0_ rfl #[.string (rdOf ByteArray.empty t296 x16_1)] rfl Qb0_ ?_; (with_reducible refine (impl_ReadDecimal.calls (rdOf ByteArray.empty t296 x16_1) t300 true _ ?tb A13.out).mono ?_); (case tb => exact Qg0_); rintro e w19 ⟨rfl, hb⟩; refine ⟨_, rfl, ?_⟩; have n0_ := Aside0.mk (Kd.R_below (Qr_ HO_4.out) hb); have n1_ := Aside0.mk (Kd.R_below (Qr_ HO_14.out) hb); have n2_ := Aside0.mk (below_step Qa0_ hb); clear HO_4; clear HO_14; clear HB; have HO_4 := n0_; have HO_14 := n1_; have HB := n2_; clear n0_ n1_ n2_; (try clear hb); (try clear hb2); (try clear hk); (try clear hi); obtain ⟨Ao20, co20, eo20⟩ := Kd.R_slice HO_4.out; subst eo20) | ((with_reducible refine gate_builtin (b := .append) (xs := #[.tmp 32, .tmp 34]) rfl ?_); (try (refine gate_guard (by rfl) ?_; dsimp only)); at_builtin; refine Kd.R_append (Kd.int .i64) (w0 := w) w.heap.size rfl (.tmp 32) (.tmp 34) 22 2 (.int .i64 0) 8 rfl Tryz.underlying22 info2 rfl (by decide) (by omega) (.slice Ao20 x4_1.length co20) x4_1 t300 [.int .i64 t300] (fun _ => True) (fun _ => False) rfl rfl ?aP (fun _ hk => hk.elim) ?aF ?aO ?aB ?aS ?aL ?_; (case aP => exact rfl); (case aB => exact Qa0_); (case aF => exact (fun _ _ => trivial)); (case aO => exact (Qr_ HO_4.out)); (case aS => exact (below_size Qa0_)); (case aL => have := LMc18.out; omega); intro v303 w21 ho hb hg hat; rw [← Ny302.out] at ho; have n0_ := Aside0.mk (Kd.R_over' (Qr_ HO_14.out) (Kd.R_typed (Qr_ HO_4.out)) (by decide) hg); have n1_ := Aside0.mk (hb); have n2_ := Aside0.mk (ho); clear HO_14; clear HB; clear HO_4; have HO_14 := n0_; have HB := n1_; have HO304 := n2_; clear n0_ n1_ n2_; clear ho hb hg hat))
          go_roundg k1
          case measure => have := HK1.out; omega
          case rel => exact ⟨(y302), (wrap64 (x16_1 + 1)), Qc0_, H', ⟨Qp0_⟩, ⟨Qr_ HO304.out⟩, ⟨Qr_ HO_14.out⟩, ⟨Qa0_⟩⟩
         ·rw [if_neg c18] at H
          exact absurd H (by simp)
       ·replace c14 := Bool.eq_false_iff.mpr c14
        subst c14
        rw [if_neg (show ¬ (false = true) by decide)] at H
        have H1 := H
        clear H
        have H := H1
        clear H1
        simp only [Option.some.injEq, Prod.mk.injEq] at H
        obtain ⟨rfl, rfl⟩ := H
        have p299 : 0 ≤ (x16_1 : Int) := of_decide_eq_true Qf0_
        have q299 : x16_1 < (t296.length : Int) := of_decide_eq_true Qf0_
        obtain ⟨ad299, e299, hx299_0⟩ := Kd.at_string (Kd.R_reads' HO_14.out).2.2 x16_1 p299 q299
        cases e299
        replace p299 := eq_true p299
        replace q299 := eq_true q299
        go_wp2_with (first | ((with_reducible refine gate_callee (f := 117) rfl ?_); refine goesL_ (some 22) rfl rfl Tryz.func117 Qi0_ rfl #[.string (rdOf ByteArray.empty t296 x16_1)] rfl Qb0_ ?_; (with_reducible refine (impl_ReadDecimal.calls (rdOf ByteArray.empty t296 x16_1) t300 false _ ?tb A13.out).mono ?_); (case tb => exact Qg0_); rintro e w22 ⟨rfl, hb⟩; refine ⟨_, rfl, ?_⟩; have n0_ := Aside0.mk (Kd.R_below (Qr_ HO_4.out) hb); have n1_ := Aside0.mk (Kd.R_below (Qr_ HO_14.out) hb); have n2_ := Aside0.mk (below_step Qa0_ hb); clear HO_4; clear HO_14; clear HB; have HO_4 := n0_; have HO_14 := n1_; have HB := n2_; clear n0_ n1_ n2_; (try clear hb); (try clear hb2); (try clear hk); (try clear hi)))
        go_ret2
        exact ⟨_, Qe0_, Qy0_, Qa0_⟩
      ·rw [if_neg c12] at H
       exact absurd H (by simp)
     ·rw [if_neg c11] at H
      exact absurd H (by simp)
    ·rw [if_neg c10] at H
     have c10b0 := decide_eq_false c10
     clear c10
     simp only [Option.some.injEq, Prod.mk.injEq] at H
     obtain ⟨rfl, rfl⟩ := H
     go_wp2
     go_ret2
     exact ⟨_, Qe0_, Qr_ HO_4.out, Qa0_⟩
theorem ra_row {w w1 : World} {base : Nat} {v : Value} {xs : List Int} (h : Kd.R (Kd.int .i64) 2 w base (fun _ => True) v xs) (hm : ∀ k, v.ownBlock = some k → w1.heap[k]? = w.heap[k]?) : Kd.R (Kd.int .i64) 2 w1 base (fun _ => True) v xs :=
 Kd.R_of_own (own_move (Kd.own_of_R h) hm) (fun _ _ => trivial)
theorem ra_lt {w : World} {base : Nat} {v : Value} {xs : List Int} (h : Kd.R (Kd.int .i64) 2 w base (fun _ => True) v xs) : ∀ k, v.ownBlock = some k → k < w.heap.size := fun k hk => own_lt (Kd.own_of_R h) k hk
theorem ra_base {w : World} {base : Nat} {v : Value} {xs : List Int} (h : Kd.R (Kd.int .i64) 2 w base (fun _ => True) v xs) : ∀ k, v.ownBlock = some k → base ≤ k := fun k hk => own_base (Kd.own_of_R h) k hk
theorem ra_ne {w : World} {base b t : Nat} {v : Value} {xs : List Int} {cells : Array Value} (h : Kd.R (Kd.int .i64) 2 w base (fun _ => True) v xs) (hb : w.heap[b]? = some (.cells cells t (0, 0))) (ht : 2 ≠ t) : v.ownBlock ≠ some b := fun e => Kd.R_ne h hb ht e.symm
theorem ra_blt {w : World} {g : Nat} {o : Obj} (h : w.heap[g]? = some o) : g < w.heap.size := by
 rcases Nat.lt_or_ge g w.heap.size with h6 | h6
 ·exact h6
 ·rw [Array.getElem?_eq_none h6] at h
  cases h
theorem ra_nil (w : World) (base : Nat) : Kd.R (Kd.int .i64) 2 w base (fun _ => True) (.slice none 0 0) ([] : List Int) := Kd.R_of_own ⟨rfl, .inl ⟨rfl, rfl⟩⟩ (fun _ _ => trivial)
def raAt (w : World) (base g : Nat) (fr : ByteArray) (p : Int) (bi : ByteArray) (vn vl : Value) (n li : List Int) : Prop :=
 base ≤ g ∧ w.heap[g]? = some (.cells #[.string fr, .int .i64 p, .string bi, vn, vl] 105 (0, 0)) ∧ Kd.R (Kd.int .i64) 2 w base (fun _ => True) vn n ∧ Kd.R (Kd.int .i64) 2 w base (fun _ => True) vl li ∧ ∀ k, vn.ownBlock = some k → vl.ownBlock ≠ some k
def RaI (w w' : World) (e g : Nat) (fr : ByteArray) (p : Int) (bi : ByteArray) (vn vl : Value) (n li : List Int) : Prop :=
 Below w.heap.size w w' ∧ raAt w' w.heap.size g fr p bi vn vl n li ∧ w.heap.size ≤ e ∧ w'.heap[e]? = some (.cells #[.string (⟨#[]⟩ : ByteArray), .int .i64 0, .string (⟨#[]⟩ : ByteArray), .slice none 0 0, .slice none 0 0] 105 (0, 0)) ∧ e ≠ g
theorem ra_below {w w1 w2 : World} {e g : Nat} {fr bi : ByteArray} {p : Int} {vn vl : Value} {n li : List Int} (h : RaI w w1 e g fr p bi vn vl n li) (hb : Below w1.heap.size w1 w2) : RaI w w2 e g fr p bi vn vl n li := by
 obtain ⟨h1, ⟨h2, h3, h4, h5, h6⟩, h7, h8, h9⟩ := h
 exact ⟨below_step h1 hb, ⟨h2, (hb.block g (ra_blt h3)).trans h3, ra_row h4 (fun k hk => hb.block k (ra_lt h4 k hk)), ra_row h5 (fun k hk => hb.block k (ra_lt h5 k hk)), h6⟩, h7, (hb.block e (ra_blt h8)).trans h8, h9⟩
theorem ra_draw {w w1 : World} {e g : Nat} {fr bi : ByteArray} {p : Int} {vn vl : Value} {n li : List Int} (h : RaI w w1 e g fr p bi vn vl n li) (m : Nat) : RaI w (w1.drewN m) e g fr p bi vn vl n li := ra_below h (pw_below_drewN (Below.refl _ _) m)
theorem ra_s0 {w w1 w2 : World} {e g : Nat} {fr bi : ByteArray} {p : Int} {vn vl : Value} {n li : List Int} (h : RaI w w1 e g fr p bi vn vl n li) (x : ByteArray) (hw : w2 = w1.setCell ⟨g, 0, none⟩ (.string x)) : RaI w w2 e g x p bi vn vl n li := by
 obtain ⟨h1, ⟨h2, h3, h4, h5, h6⟩, h7, h8, h9⟩ := h
 have hk : ∀ k, k ≠ g → w2.heap[k]? = w1.heap[k]? := fun k hk => by rw [hw]; exact Below.heap_setCell _ _ _ k hk
 exact ⟨by rw [hw]; exact h1.setCell h2 _, ⟨h2, by rw [hw]; exact blk_put h3 0 _ rfl, ra_row h4 (fun k hk1 => hk k (fun e1 => ra_ne h4 h3 (by decide) (e1 ▸ hk1))), ra_row h5 (fun k hk1 => hk k (fun e1 => ra_ne h5 h3 (by decide) (e1 ▸ hk1))), h6⟩, h7, (hk e h9).trans h8, h9⟩
theorem ra_s1 {w w1 w2 : World} {e g : Nat} {fr bi : ByteArray} {p : Int} {vn vl : Value} {n li : List Int} (h : RaI w w1 e g fr p bi vn vl n li) (x : Int) (hw : w2 = w1.setCell ⟨g, 1, none⟩ (.int .i64 x)) : RaI w w2 e g fr x bi vn vl n li := by
 obtain ⟨h1, ⟨h2, h3, h4, h5, h6⟩, h7, h8, h9⟩ := h
 have hk : ∀ k, k ≠ g → w2.heap[k]? = w1.heap[k]? := fun k hk => by rw [hw]; exact Below.heap_setCell _ _ _ k hk
 exact ⟨by rw [hw]; exact h1.setCell h2 _, ⟨h2, by rw [hw]; exact blk_put h3 1 _ rfl, ra_row h4 (fun k hk1 => hk k (fun e1 => ra_ne h4 h3 (by decide) (e1 ▸ hk1))), ra_row h5 (fun k hk1 => hk k (fun e1 => ra_ne h5 h3 (by decide) (e1 ▸ hk1))), h6⟩, h7, (hk e h9).trans h8, h9⟩
theorem ra_s2 {w w1 w2 : World} {e g : Nat} {fr bi : ByteArray} {p : Int} {vn vl : Value} {n li : List Int} (h : RaI w w1 e g fr p bi vn vl n li) (x : ByteArray) (hw : w2 = w1.setCell ⟨g, 2, none⟩ (.string x)) : RaI w w2 e g fr p x vn vl n li := by
 obtain ⟨h1, ⟨h2, h3, h4, h5, h6⟩, h7, h8, h9⟩ := h
 have hk : ∀ k, k ≠ g → w2.heap[k]? = w1.heap[k]? := fun k hk => by rw [hw]; exact Below.heap_setCell _ _ _ k hk
 exact ⟨by rw [hw]; exact h1.setCell h2 _, ⟨h2, by rw [hw]; exact blk_put h3 2 _ rfl, ra_row h4 (fun k hk1 => hk k (fun e1 => ra_ne h4 h3 (by decide) (e1 ▸ hk1))), ra_row h5 (fun k hk1 => hk k (fun e1 => ra_ne h5 h3 (by decide) (e1 ▸ hk1))), h6⟩, h7, (hk e h9).trans h8, h9⟩
theorem ra_s3 {w w1 w2 w3 : World} {e g : Nat} {fr bi : ByteArray} {p : Int} {vn vl vn' : Value} {n li n' : List Int} (h : RaI w w1 e g fr p bi vn vl n li) (ho : Kd.R (Kd.int .i64) 2 w2 w.heap.size (fun _ => True) vn' n') (hb : Below w.heap.size w w2) (hg : w1.grownBy w2 vn.ownBlock) (hat : vn'.ownBlock = vn.ownBlock ∨ ∃ b, vn'.ownBlock = some b ∧ w1.heap.size ≤ b) (hw : w3 = w2.setCell ⟨g, 3, none⟩ vn') : RaI w w3 e g fr p bi vn' vl n' li := by
 obtain ⟨h1, ⟨h2, h3, h4, h5, h6⟩, h7, h8, h9⟩ := h
 have hk : ∀ k, k ≠ g → w3.heap[k]? = w2.heap[k]? := fun k hk => by rw [hw]; exact Below.heap_setCell _ _ _ k hk
 have h3' := (hg.block g (ra_blt h3) (fun e1 => ra_ne h4 h3 (by decide) e1.symm)).trans h3
 have h8' := (hg.block e (ra_blt h8) (fun e1 => ra_ne h4 h8 (by decide) e1.symm)).trans h8
 have h5' : Kd.R (Kd.int .i64) 2 w2 w.heap.size (fun _ => True) vl li := ra_row h5 (fun k hk1 => hg.block k (ra_lt h5 k hk1) (fun e1 => h6 k e1.symm hk1))
 refine ⟨by rw [hw]; exact hb.setCell h2 _, ⟨h2, by rw [hw]; exact blk_put h3' 3 _ rfl, ra_row ho (fun k hk1 => hk k (fun e1 => ra_ne ho h3' (by decide) (e1 ▸ hk1))), ra_row h5' (fun k hk1 => hk k (fun e1 => ra_ne h5' h3' (by decide) (e1 ▸ hk1))), fun k hk1 hk2 => ?_⟩, h7, (hk e h9).trans h8', h9⟩
 rcases hat with h10 | ⟨b, h10, h11⟩
 ·exact h6 k (h10.symm.trans hk1) hk2
 ·rw [hk1] at h10
  cases h10
  have := ra_lt h5 k hk2
  omega
theorem ra_s4 {w w1 w2 w3 : World} {e g : Nat} {fr bi : ByteArray} {p : Int} {vn vl vl' : Value} {n li li' : List Int} (h : RaI w w1 e g fr p bi vn vl n li) (hb : Below w1.heap.size w1 w2) (ho : Kd.R (Kd.int .i64) 2 w2 w1.heap.size (fun _ => True) vl' li') (hw : w3 = w2.setCell ⟨g, 4, none⟩ vl') : RaI w w3 e g fr p bi vn vl' n li' := by
 have hl := fun k hk => ra_lt h.2.1.2.2.1 k hk
 obtain ⟨h1, ⟨h2, h3, h4, h5, h6⟩, h7, h8, h9⟩ := ra_below h hb
 have hk : ∀ k, k ≠ g → w3.heap[k]? = w2.heap[k]? := fun k hk => by rw [hw]; exact Below.heap_setCell _ _ _ k hk
 have ho' := Kd.R_lower ho h.1.size
 refine ⟨by rw [hw]; exact h1.setCell h2 _, ⟨h2, by rw [hw]; exact blk_put h3 4 _ rfl, ra_row h4 (fun k hk1 => hk k (fun e1 => ra_ne h4 h3 (by decide) (e1 ▸ hk1))), ra_row ho' (fun k hk1 => hk k (fun e1 => ra_ne ho' h3 (by decide) (e1 ▸ hk1))), fun k hk1 hk2 => ?_⟩, h7, (hk e h9).trans h8, h9⟩
 have := hl k hk1
 have := ra_base ho k hk2
 omega
theorem ra_all {w w' : World} {e g : Nat} {fr bi : ByteArray} {p : Int} {vn vl : Value} {n li : List Int} (h : RaI w w' e g fr p bi vn vl n li) : (#[Value.string fr, .int .i64 p, .string bi, vn, vl] : Array Value).all (·.oneCell') = true := by
 obtain ⟨A3, c3, e3⟩ := Kd.R_slice h.2.1.2.2.1
 obtain ⟨A4, c4, e4⟩ := Kd.R_slice h.2.1.2.2.2.1
 rw [e3, e4]
 simp [Value.oneCell']
theorem ra_results {P : Program} {fn : Func} {p u : Tmp} {ty : TypeId} (h : fn.results = #[.cell p ty, .tmp u]) (tmps : Array Value) (w : World) (g : Nat) (t : TypeId) (cs : Array Value) (fr : Nat × Nat) (d : TypeDesc) (v : Value)
 (hp : tmps.getD p undef = .pointer (some ⟨g, 0, none⟩)) (hg : w.heap[g]? = some (.cells cs t fr))
 (hu : P.underlying ty = some d) (hd : (match d with | .struct _ | .array _ _ => true | _ => false) = true) (hi : (P.info? ty).map (·.size) = some cs.size) (hv : tmps.getD u undef = v) :
 (results fn tmps).run P w = .ok (.tuple #[.agg cs, v]) w := by
 have hp' : tmps[p]?.getD undef = .pointer (some ⟨g, 0, none⟩) := by simpa using hp
 have hv' : tmps[u]?.getD undef = v := by simpa using hv
 simp [results, h, hp', hv', asAddr, run_loadVar_row w g t ty cs fr d hg hu hd hi]
section
variable {P : Program} {ops : Array Oper} {rest : List Oper} {o : Oper} {a : Act} {Q : Exit → Act → World → Prop}
theorem ra_store {W : World} (hgd : o.guard = none) (hN : o.dst = none) (ty : TypeId) (x y : Operand) (ho : o.op = .store ty x y)
 (g : Nat) (cells : Array Value) (hx : a.eval x = .pointer (some ⟨g, 0, none⟩)) (hy : a.eval y = .agg cells)
 (t : TypeId) (old : Array Value) (hg : W.heap[g]? = some (.cells old t (0, 0))) (hi : (P.info? ty).map (·.size) = some cells.size)
 (hold : old.size = cells.size) (h1 : cells.all (·.oneCell') = true)
 (h : ∀ w1, w1.heap[g]? = some (.cells cells t (0, 0)) → (∀ k, k ≠ g → w1.heap[k]? = W.heap[k]?) → (∀ B w0, Below B w0 W → B ≤ g → Below B w0 w1) → wpList P ops Q rest a w1) : wpList P ops Q (o :: rest) a W := by
 refine wpList_store_row hgd ty x y ho g cells hx hy t old hg hi hold h1 ?_
 rw [hN]
 exact h _ (setRow_heap W g old cells t (0, 0) hg) (fun k hk => setRow_other W g k cells hk) (fun B w0 hb hB => below_setRow hb hB cells)
end
def impl_Console_read.l0 : Nat → List ByteArray → List ByteArray → ByteArray → List ByteArray → Int → ByteArray → Int → ByteArray → List Int → List Int → Option (ByteArray × Int × ByteArray × List Int × List Int × Bool)
 | 0, _, _, _, _, _, _, _, _, _, _ => none
 | k + 1, ns, ls, fo, lw, i, fr, p, bi, n, li => if i < (lw.length : Int) then (if 0 ≤ i then (if i < (fo.size : Int) then (if bt fo i = 65 then ((slices_Index_string_string.f k ns (rdOf ByteArray.empty lw i)).bind fun t => (if t ≥ 0 then (if t < (ls.length : Int) then (impl_Console_read.l0 k ns ls fo lw (wrap64 (i + 1)) fr t (rdOf ByteArray.empty ls t) n li) else (none)) else (some ((⟨#[]⟩ : ByteArray), (0 : Int), (⟨#[]⟩ : ByteArray), ([] : List Int), ([] : List Int), false)))) else (if bt fo i = 87 then (impl_Console_read.l0 k ns ls fo lw (wrap64 (i + 1)) (rdOf ByteArray.empty lw i) p bi n li) else (if bt fo i = 66 then (if (rdOf ByteArray.empty lw i).toList = ([110, 111, 110, 101] : List UInt8) then (impl_Console_read.l0 k ns ls fo lw (wrap64 (i + 1)) fr p bi n li) else (if (rdOf ByteArray.empty lw i).toList = ([] : List UInt8) then (some ((⟨#[]⟩ : ByteArray), (0 : Int), (⟨#[]⟩ : ByteArray), ([] : List Int), ([] : List Int), false)) else ((impl_areBits.f (rdOf ByteArray.empty lw i)).bind fun t => (if t = true then (impl_Console_read.l0 k ns ls fo lw (wrap64 (i + 1)) fr p (rdOf ByteArray.empty lw i) n li) else (some ((⟨#[]⟩ : ByteArray), (0 : Int), (⟨#[]⟩ : ByteArray), ([] : List Int), ([] : List Int), false)))))) else (if bt fo i = 78 then ((impl_ReadDecimal.f (rdOf ByteArray.empty lw i)).bind fun t => (if n.length < 1000 then (if t.2 = true then (impl_Console_read.l0 k ns ls fo lw (wrap64 (i + 1)) fr p bi (n ++ [t.1]) li) else (some ((⟨#[]⟩ : ByteArray), (0 : Int), (⟨#[]⟩ : ByteArray), ([] : List Int), ([] : List Int), false))) else (none))) else (if bt fo i = 76 then ((impl_ReadList.f k (rdOf ByteArray.empty lw i)).bind fun t => (if t.2 = true then (impl_Console_read.l0 k ns ls fo lw (wrap64 (i + 1)) fr p bi n t.1) else (some ((⟨#[]⟩ : ByteArray), (0 : Int), (⟨#[]⟩ : ByteArray), ([] : List Int), ([] : List Int), false)))) else (impl_Console_read.l0 k ns ls fo lw (wrap64 (i + 1)) fr p bi n li)))))) else (none)) else (none)) else (some (fr, p, bi, n, li, true))
def impl_Console_read.f (k : Nat) (ns ls : List ByteArray) (fo : ByteArray) (lw : List ByteArray) : Option (ByteArray × Int × ByteArray × List Int × List Int × Bool) := impl_Console_read.l0 k ns ls fo lw 0 (⟨#[]⟩ : ByteArray) 0 (⟨#[]⟩ : ByteArray) [] []
set_option maxHeartbeats 8000000 in
set_option maxRecDepth 100000 in
theorem impl_Console_read.calls (k : Nat) (base b : Nat) (v0 v1 : Value) (ns ls : List ByteArray) (fo : ByteArray) (A2 : Option Addr) (c2 : Nat) (lw : List ByteArray) (rf : ByteArray) (rp : Int) (rb : ByteArray) (rn rl : List Int) (rok : Bool) (w : World) (hC : conAt w base b v0 v1 ns ls) (hr2 : Kd.C Kd.string w A2 lw.length lw) (hc2 : lw.length ≤ c2) (hT : LibW w) (h : impl_Console_read.f k ns ls fo lw = some (rf, rp, rb, rn, rl, rok)) :
 Calls Tryz.prog 90 #[.pointer (some ⟨b, 0, none⟩), .string fo, .slice A2 lw.length c2] w fun e w' => ∃ vn vl : Value, e = .returned (.tuple #[.agg #[.string rf, .int .i64 rp, .string rb, vn, vl], .bool rok]) ∧ Kd.R (Kd.int .i64) 2 w' w.heap.size (fun _ => True) vn rn ∧ Kd.R (Kd.int .i64) 2 w' w.heap.size (fun _ => True) vl rl ∧ Below w.heap.size w w' := by
 have hu26 := Tryz.underlying39
 have hu59 := Tryz.underlying105
 have HC := Aside0.mk hC
 have HR2 := Aside0.mk hr2
 have HC2 := Aside0.mk hc2
 have HT := Aside0.mk hT
 obtain ⟨A0, c0, A1, c1, rfl, rfl, hl0, hl1, hC0, hC1⟩ := con_slices hC
 have HL0 := Aside0.mk hl0
 have HC0 := Aside0.mk hC0
 have HC1 := Aside0.mk hC1
 have HB := Aside0.mk (Below.refl w.heap.size w)
 clear hC hr2 hc2 hT hl0 hl1 hC0 hC1
 have H' := Aside0.mk h
 clear h
 go_enter Tryz.func90, Tryz.ntmps90
 go_wp2_with (first | ((with_reducible refine gate_dst (N := 6) rfl ?_); (try (refine gate_guard (by rfl) ?_; dsimp only)); refine box_event ?hg (N := 6) ?hd (cs := #[.string (⟨#[]⟩ : ByteArray), .int .i64 0, .string (⟨#[]⟩ : ByteArray), .slice none 0 0, .slice none 0 0]) (t := 105) ?hr ?_; (case hd => rfl); (case hg => rfl); (case hr => exact Qh0_); intro ge hgge wge hbox hb; have n0_ := Aside0.mk (below_step Qa0_ hb); have HGE := Aside0.mk (show w.heap.size ≤ ge by omega); have n1_ := Aside0.mk (hbox); clear HB; have HB := n0_; have BKge := n1_; clear n0_ n1_; clear hb hbox hgge; have hczge0 : wge.cell? ⟨ge, 0, none⟩ = some (.string (⟨#[]⟩ : ByteArray)) := (blk_cell BKge.out 0).trans rfl; have hczge1 : wge.cell? ⟨ge, 1, none⟩ = some (.int .i64 0) := (blk_cell BKge.out 1).trans rfl; have hczge2 : wge.cell? ⟨ge, 2, none⟩ = some (.string (⟨#[]⟩ : ByteArray)) := (blk_cell BKge.out 2).trans rfl; have hczge3 : wge.cell? ⟨ge, 3, none⟩ = some (.slice none 0 0) := (blk_cell BKge.out 3).trans rfl; have hczge4 : wge.cell? ⟨ge, 4, none⟩ = some (.slice none 0 0) := (blk_cell BKge.out 4).trans rfl) | ((with_reducible refine gate_dst (N := 8) rfl ?_); (try (refine gate_guard (by rfl) ?_; dsimp only)); refine box_event ?hg (N := 8) ?hd (cs := #[.string (⟨#[]⟩ : ByteArray), .int .i64 0, .string (⟨#[]⟩ : ByteArray), .slice none 0 0, .slice none 0 0]) (t := 105) ?hr ?_; (case hd => rfl); (case hg => rfl); (case hr => exact Qh0_); intro gg hggg wgg hbox hb; have n0_ := Aside0.mk (below_step Qa0_ hb); have BKE2 := Aside0.mk ((hb.block ge (ra_blt BKge.out)).trans BKge.out); have HNE := Aside0.mk (show ge ≠ gg from fun e_ => by have := ra_blt BKge.out; omega); have HGG := Aside0.mk (show w.heap.size ≤ gg by have := HB.out.size; omega); have n1_ := Aside0.mk (hbox); clear HB; have HB := n0_; have BKgg := n1_; clear n0_ n1_; clear hb hbox hggg; have hczgg0 : wgg.cell? ⟨gg, 0, none⟩ = some (.string (⟨#[]⟩ : ByteArray)) := (blk_cell BKgg.out 0).trans rfl; have hczgg1 : wgg.cell? ⟨gg, 1, none⟩ = some (.int .i64 0) := (blk_cell BKgg.out 1).trans rfl; have hczgg2 : wgg.cell? ⟨gg, 2, none⟩ = some (.string (⟨#[]⟩ : ByteArray)) := (blk_cell BKgg.out 2).trans rfl; have hczgg3 : wgg.cell? ⟨gg, 3, none⟩ = some (.slice none 0 0) := (blk_cell BKgg.out 3).trans rfl; have hczgg4 : wgg.cell? ⟨gg, 4, none⟩ = some (.slice none 0 0) := (blk_cell BKgg.out 4).trans rfl) | ((with_reducible refine gate_store (t := 105) (p := 8) rfl ?_); refine ra_store ?a1 ?a2 105 (.tmp 8) (.tmp 13) ?a3 gg #[.string (⟨#[]⟩ : ByteArray), .int .i64 0, .string (⟨#[]⟩ : ByteArray), .slice none 0 0, .slice none 0 0] ?a4 ?a5 105 #[.string (⟨#[]⟩ : ByteArray), .int .i64 0, .string (⟨#[]⟩ : ByteArray), .slice none 0 0, .slice none 0 0] BKgg.out ?a6 ?a7 ?a8 ?_; (case a1 => rfl); (case a2 => rfl); (case a3 => rfl); (case a4 => rfl); (case a5 => rfl); (case a6 => rfl); (case a7 => rfl); (case a8 => exact Qo0_); intro w1 hs1 hs2 hs3; have HI := Aside0.mk (show RaI w w1 ge gg (⟨#[]⟩ : ByteArray) 0 (⟨#[]⟩ : ByteArray) (.slice none 0 0) (.slice none 0 0) [] [] from ⟨hs3 _ _ HB.out HGG.out, ⟨HGG.out, hs1, ra_nil _ _, ra_nil _ _, fun k_ h_ => by cases h_⟩, HGE.out, (hs2 ge HNE.out).trans BKE2.out, HNE.out⟩); clear hs1 hs2 hs3 HB HGG HGE HNE BKE2 BKgg BKge))
 go_loopg [16] k (fun kq v16 w' => ∃ (i : Int) (fr : ByteArray) (p : Int) (bi : ByteArray) (vn vl : Value) (n li : List Int), v16 = .int .i64 i ∧ Aside0 (impl_Console_read.l0 kq ns ls fo lw i fr p bi n li = some (rf, rp, rb, rn, rl, rok)) ∧ Aside0 (kq ≤ k) ∧ Aside0 (RaI w w' ge gg fr p bi vn vl n li))
 case atStart => exact ⟨0, _, 0, _, _, _, [], [], Qc0_, H', ⟨Nat.le_refl _⟩, HI⟩
 case round =>
  clear HI H'
  obtain ⟨i, fr, p, bi, vn, vl, n, li, rfl, HA, HK1, HI⟩ := hrel
  cases gk with
  | zero => exact absurd HA.out (by simp [impl_Console_read.l0])
  | succ k1 =>
   have H := HA.out
   clear HA
   simp only [impl_Console_read.l0] at H
   have hcg0 : wr.cell? ⟨gg, 0, none⟩ = some (.string fr) := (blk_cell HI.out.2.1.2.1 0).trans rfl
   have hcg1 : wr.cell? ⟨gg, 1, none⟩ = some (.int .i64 p) := (blk_cell HI.out.2.1.2.1 1).trans rfl
   have hcg2 : wr.cell? ⟨gg, 2, none⟩ = some (.string bi) := (blk_cell HI.out.2.1.2.1 2).trans rfl
   have hcg3 : wr.cell? ⟨gg, 3, none⟩ = some vn := (blk_cell HI.out.2.1.2.1 3).trans rfl
   have hcg4 : wr.cell? ⟨gg, 4, none⟩ = some vl := (blk_cell HI.out.2.1.2.1 4).trans rfl
   by_cases d1 : i < (lw.length : Int)
   rotate_left
   ·rw [if_neg d1] at H
    simp only [Option.some.injEq, Prod.mk.injEq] at H
    obtain ⟨rfl, rfl, rfl, rfl, rfl, rfl⟩ := H
    have d1b0 : decide (i < (lw.length : Int)) = false := decide_eq_false d1
    clear d1
    go_wp2_with (first | ((with_reducible refine gate_store (t := 105) (p := 6) rfl ?_); refine ra_store ?a1 ?a2 105 (.tmp 6) (.tmp 87) ?a3 ge #[.string fr, .int .i64 p, .string bi, vn, vl] ?a4 ?a5 105 #[.string (⟨#[]⟩ : ByteArray), .int .i64 0, .string (⟨#[]⟩ : ByteArray), .slice none 0 0, .slice none 0 0] HI.out.2.2.2.1 ?a6 ?a7 ?a8 ?_; (case a1 => rfl); (case a2 => rfl); (case a3 => rfl); (case a4 => rfl); (case a5 => rfl); (case a6 => rfl); (case a7 => rfl); (case a8 => exact Qi1_); intro wz hs1 hs2 hs3; have HR1 := Aside0.mk hs1; have HR2_ := Aside0.mk hs2; have HR3 := Aside0.mk hs3; clear hs1 hs2 hs3))
    refine bodyPost_ret (ra_results rfl _ _ ge 105 #[.string fr, .int .i64 p, .string bi, vn, vl] (0, 0) _ (.bool true) rfl HR1.out Tryz.underlying105 rfl Qi0_ rfl) rfl ?_
    exact ⟨vn, vl, rfl, ra_row HI.out.2.1.2.2.1 (fun k_ hk_ => HR2_.out k_ (fun e_ => ra_ne HI.out.2.1.2.2.1 HI.out.2.2.2.1 (by decide) (e_ ▸ hk_))), ra_row HI.out.2.1.2.2.2.1 (fun k_ hk_ => HR2_.out k_ (fun e_ => ra_ne HI.out.2.1.2.2.2.1 HI.out.2.2.2.1 (by decide) (e_ ▸ hk_))), HR3.out _ _ HI.out.1 HI.out.2.2.1⟩
   rw [if_pos d1] at H
   by_cases d2 : 0 ≤ i
   rotate_left
   ·rw [if_neg d2] at H
    exact absurd H (by simp)
   rw [if_pos d2] at H
   by_cases d3 : i < (fo.size : Int)
   rotate_left
   ·rw [if_neg d3] at H
    exact absurd H (by simp)
   rw [if_pos d3] at H
   have d1b0 : decide (i < (lw.length : Int)) = true := decide_eq_true d1
   obtain ⟨adw, ew, hxw⟩ := Kd.at_string (Kd.C_below HR2.out HI.out.1) i d2 d1
   cases ew
   obtain ⟨wd, hwd⟩ : ∃ y : ByteArray, rdOf ByteArray.empty lw i = y := ⟨_, rfl⟩
   rw [hwd] at H hxw
   clear hwd
   have hx4 := bt_at fo i
   have p2 := eq_true d2
   have q1 := eq_true d1
   have q3 := eq_true d3
   clear d1 d2 d3
   have hcc0 : wr.cell? ⟨b, 0, none⟩ = some (.slice A0 ns.length c0) := (blk_cell (con_below HC.out HI.out.1).2.1 0).trans rfl
   have hfg0 := blk_frozen HI.out.2.1.2.1 0
   have hfg1 := blk_frozen HI.out.2.1.2.1 1
   have hfg2 := blk_frozen HI.out.2.1.2.1 2
   have hfg3 := blk_frozen HI.out.2.1.2.1 3
   have hfg4 := blk_frozen HI.out.2.1.2.1 4
   by_cases d4 : bt fo i = 65
   ·rw [if_pos d4] at H
    have d4b0 : (bt fo i == 65) = true := beq_iff_eq.mpr d4
    clear d4
    obtain ⟨t, B1, H⟩ := Option.bind_eq_some_iff.mp H
    have B1_ := Aside0.mk B1
    clear B1
    by_cases e1 : t ≥ 0
    ·rw [if_pos e1] at H
     by_cases e2 : t < (ls.length : Int)
     rotate_left
     ·rw [if_neg e2] at H
      exact absurd H (by simp)
     rw [if_pos e2] at H
     have e1b0 : decide (0 ≤ t) = true := decide_eq_true e1
     have E1 := Aside0.mk e1
     have E2 := Aside0.mk e2
     have H' := Aside0.mk H
     clear H e1 e2
     go_wp2_with (first | (go_at_call 69; (with_reducible refine (slices_Index_string_string.calls k1 A0 c0 ns wd t _ ?s1 ?s2 B1_.out).mono ?_); (case s1 => exact Kd.C_below HC0.out HI.out.1); (case s2 => exact HL0.out); rintro e w2 ⟨rfl, ⟨nd, rfl⟩⟩) | ((with_reducible refine gate_store (t := 3) (p := 32) rfl ?_); refine store_event (t := 3) (p := 32) (v := .tmp 31) (w1 := ((wr.drewN nd).setCell ⟨gg, 1, none⟩ (.int .i64 t))) ?hg ?ho ?hn ?hr ?_; (case ho => rfl); (case hg => rfl); (case hn => rfl); (case hr => exact Qh0_); intro w3 hw_; have HI2 := Aside0.mk (ra_s1 (ra_draw HI.out nd) _ hw_); clear hw_; have hcc1 : w3.cell? ⟨b, 1, none⟩ = some (.slice A1 ls.length c1) := (blk_cell (con_below HC.out HI2.out.1).2.1 1).trans rfl; have hcd1 : w3.cell? ⟨gg, 1, none⟩ = some (.int .i64 t) := (blk_cell HI2.out.2.1.2.1 1).trans rfl; have hcd2 : w3.cell? ⟨gg, 2, none⟩ = some (.string bi) := (blk_cell HI2.out.2.1.2.1 2).trans rfl; have hfd2 := blk_frozen HI2.out.2.1.2.1 2; obtain ⟨adl, el, hxl⟩ := Kd.at_string (Kd.C_below HC1.out HI2.out.1) t E1.out E2.out; cases el; have pt := eq_true E1.out; have qt := eq_true E2.out))
     go_region
     go_wp2
     go_roundg k1
     case measure => have := HK1.out; omega
     case rel => exact ⟨(wrap64 (i + 1)), _, _, _, _, _, _, _, Qc0_, H', ⟨Qp0_⟩, ⟨by first | exact ra_s2 (ra_draw HI2.out _) _ rfl | exact ra_draw (ra_s2 HI2.out _ rfl) _ | exact ra_s2 HI2.out _ rfl⟩⟩
    ·rw [if_neg e1] at H
     simp only [Option.some.injEq, Prod.mk.injEq] at H; obtain ⟨rfl, rfl, rfl, rfl, rfl, rfl⟩ := H
     have e1b0 : decide (0 ≤ t) = false := decide_eq_false e1
     clear e1
     go_wp2_with (first | (go_at_call 69; (with_reducible refine (slices_Index_string_string.calls k1 A0 c0 ns wd t _ ?s1 ?s2 B1_.out).mono ?_); (case s1 => exact Kd.C_below HC0.out HI.out.1); (case s2 => exact HL0.out); rintro e w2 ⟨rfl, ⟨nd, rfl⟩⟩) | ((with_reducible refine gate_store (t := 3) (p := 32) rfl ?_); refine store_event (t := 3) (p := 32) (v := .tmp 31) (w1 := ((wr.drewN nd).setCell ⟨gg, 1, none⟩ (.int .i64 t))) ?hg ?ho ?hn ?hr ?_; (case ho => rfl); (case hg => rfl); (case hn => rfl); (case hr => exact Qh0_); intro w3 hw_; have HI2 := Aside0.mk (ra_s1 (ra_draw HI.out nd) _ hw_); clear hw_; have hcd1 : w3.cell? ⟨gg, 1, none⟩ = some (.int .i64 t) := (blk_cell HI2.out.2.1.2.1 1).trans rfl) | ((with_reducible refine gate_store (t := 105) (p := 6) rfl ?_); refine ra_store ?a1 ?a2 105 (.tmp 6) (.tmp 85) ?a3 ge #[.string (⟨#[]⟩ : ByteArray), .int .i64 0, .string (⟨#[]⟩ : ByteArray), .slice none 0 0, .slice none 0 0] ?a4 ?a5 105 #[.string (⟨#[]⟩ : ByteArray), .int .i64 0, .string (⟨#[]⟩ : ByteArray), .slice none 0 0, .slice none 0 0] HI2.out.2.2.2.1 ?a6 ?a7 ?a8 ?_; (case a1 => rfl); (case a2 => rfl); (case a3 => rfl); (case a4 => rfl); (case a5 => rfl); (case a6 => rfl); (case a7 => rfl); (case a8 => exact Qi1_); intro wz hs1 hs2 hs3; have HR1 := Aside0.mk hs1; have HR2_ := Aside0.mk hs2; have HR3 := Aside0.mk hs3; clear hs1 hs2 hs3))
     refine bodyPost_ret (ra_results rfl _ _ ge 105 #[.string (⟨#[]⟩ : ByteArray), .int .i64 0, .string (⟨#[]⟩ : ByteArray), .slice none 0 0, .slice none 0 0] (0, 0) _ (.bool false) rfl HR1.out Tryz.underlying105 rfl Qi0_ rfl) rfl ?_; exact ⟨_, _, rfl, ra_nil _ _, ra_nil _ _, HR3.out _ _ HI2.out.1 HI2.out.2.2.1⟩
   rw [if_neg d4] at H
   have d4b0 : (bt fo i == 65) = false := beq_eq_false_iff_ne.mpr d4
   clear d4
   by_cases d5 : bt fo i = 87
   ·rw [if_pos d5] at H
    have d5b0 : (bt fo i == 87) = true := beq_iff_eq.mpr d5
    have H' := Aside0.mk H
    clear d5 H
    go_wp2
    go_roundg k1; (case measure => exact Qp0_); (case rel => exact ⟨(wrap64 (i + 1)), _, _, _, _, _, _, _, Qc0_, H', ⟨Qp0_⟩, ⟨ra_s0 HI.out _ rfl⟩⟩)
   rw [if_neg d5] at H
   have d5b0 : (bt fo i == 87) = false := beq_eq_false_iff_ne.mpr d5
   clear d5
   by_cases d6 : bt fo i = 66
   ·rw [if_pos d6] at H
    have d6b0 : (bt fo i == 66) = true := beq_iff_eq.mpr d6
    clear d6
    by_cases e1 : wd.toList = ([110, 111, 110, 101] : List UInt8)
    ·rw [if_pos e1] at H
     have e1b0 : (wd.toList == ([110, 111, 110, 101] : List UInt8)) = true := beq_iff_eq.mpr e1
     have e1b1 : (wd.toList != ([110, 111, 110, 101] : List UInt8)) = false := bne_eq_false_iff_eq.mpr e1
     have H' := Aside0.mk H
     clear e1 H
     go_wp2
     go_roundg k1; (case measure => exact Qp0_); (case rel => exact ⟨(wrap64 (i + 1)), _, _, _, _, _, _, _, Qc0_, H', ⟨Qp0_⟩, ⟨HI.out⟩⟩)
    rw [if_neg e1] at H
    have e1b0 : (wd.toList == ([110, 111, 110, 101] : List UInt8)) = false := beq_eq_false_iff_ne.mpr e1
    have e1b1 : (wd.toList != ([110, 111, 110, 101] : List UInt8)) = true := bne_iff_ne.mpr e1
    clear e1
    by_cases e2 : wd.toList = ([] : List UInt8)
    ·rw [if_pos e2] at H
     simp only [Option.some.injEq, Prod.mk.injEq] at H; obtain ⟨rfl, rfl, rfl, rfl, rfl, rfl⟩ := H
     have e2b0 : (wd.toList == ([] : List UInt8)) = true := beq_iff_eq.mpr e2
     have e2b1 : (wd.toList != ([] : List UInt8)) = false := bne_eq_false_iff_eq.mpr e2
     clear e2
     go_wp2_with (first | ((with_reducible refine gate_store (t := 9) (p := 61) rfl ?_); refine store_event (t := 9) (p := 61) (v := .tmp 60) (w1 := (wr.setCell ⟨gg, 2, none⟩ (.string wd))) ?hg ?ho ?hn ?hr ?_; (case ho => rfl); (case hg => rfl); (case hn => rfl); (case hr => exact Qh0_); intro w3 hw_; have HI2 := Aside0.mk (ra_s2 HI.out _ hw_); clear hw_) | ((with_reducible refine gate_store (t := 105) (p := 6) rfl ?_); refine ra_store ?a1 ?a2 105 (.tmp 6) (.tmp 85) ?a3 ge #[.string (⟨#[]⟩ : ByteArray), .int .i64 0, .string (⟨#[]⟩ : ByteArray), .slice none 0 0, .slice none 0 0] ?a4 ?a5 105 #[.string (⟨#[]⟩ : ByteArray), .int .i64 0, .string (⟨#[]⟩ : ByteArray), .slice none 0 0, .slice none 0 0] HI2.out.2.2.2.1 ?a6 ?a7 ?a8 ?_; (case a1 => rfl); (case a2 => rfl); (case a3 => rfl); (case a4 => rfl); (case a5 => rfl); (case a6 => rfl); (case a7 => rfl); (case a8 => exact Qi1_); intro wz hs1 hs2 hs3; have HR1 := Aside0.mk hs1; have HR2_ := Aside0.mk hs2; have HR3 := Aside0.mk hs3; clear hs1 hs2 hs3))
     refine bodyPost_ret (ra_results rfl _ _ ge 105 #[.string (⟨#[]⟩ : ByteArray), .int .i64 0, .string (⟨#[]⟩ : ByteArray), .slice none 0 0, .slice none 0 0] (0, 0) _ (.bool false) rfl HR1.out Tryz.underlying105 rfl Qi0_ rfl) rfl ?_; exact ⟨_, _, rfl, ra_nil _ _, ra_nil _ _, HR3.out _ _ HI2.out.1 HI2.out.2.2.1⟩
    rw [if_neg e2] at H
    have e2b0 : (wd.toList == ([] : List UInt8)) = false := beq_eq_false_iff_ne.mpr e2
    have e2b1 : (wd.toList != ([] : List UInt8)) = true := bne_iff_ne.mpr e2
    clear e2
    obtain ⟨t, B1, H⟩ := Option.bind_eq_some_iff.mp H
    have B1_ := Aside0.mk B1
    clear B1
    cases t with
    | true =>
     rw [if_pos rfl] at H
     have H' := Aside0.mk H
     clear H
     go_wp2_with (first | (go_at_call 79; (with_reducible refine (impl_areBits.calls wd true _ B1_.out).mono ?_); rintro e w2 ⟨rfl, hb⟩; have HI1 := Aside0.mk (ra_below HI.out hb); clear hb; have hcd2 : w2.cell? ⟨gg, 2, none⟩ = some (.string bi) := (blk_cell HI1.out.2.1.2.1 2).trans rfl; have hfd2 := blk_frozen HI1.out.2.1.2.1 2))
     go_roundg k1; (case measure => exact Qp0_); (case rel => exact ⟨(wrap64 (i + 1)), _, _, _, _, _, _, _, Qc0_, H', ⟨Qp0_⟩, ⟨ra_s2 HI1.out _ rfl⟩⟩)
    | false =>
     rw [if_neg (fun h_ => Bool.false_ne_true h_)] at H
     simp only [Option.some.injEq, Prod.mk.injEq] at H; obtain ⟨rfl, rfl, rfl, rfl, rfl, rfl⟩ := H
     go_wp2_with (first | (go_at_call 79; (with_reducible refine (impl_areBits.calls wd false _ B1_.out).mono ?_); rintro e w2 ⟨rfl, hb⟩; have HI1 := Aside0.mk (ra_below HI.out hb); clear hb; have hcd2 : w2.cell? ⟨gg, 2, none⟩ = some (.string bi) := (blk_cell HI1.out.2.1.2.1 2).trans rfl; have hfd2 := blk_frozen HI1.out.2.1.2.1 2) | ((with_reducible refine gate_store (t := 9) (p := 61) rfl ?_); refine store_event (t := 9) (p := 61) (v := .tmp 60) (w1 := (w2.setCell ⟨gg, 2, none⟩ (.string wd))) ?hg ?ho ?hn ?hr ?_; (case ho => rfl); (case hg => rfl); (case hn => rfl); (case hr => exact Qh0_); intro w3 hw_; have HI2 := Aside0.mk (ra_s2 HI1.out _ hw_); clear hw_) | ((with_reducible refine gate_store (t := 105) (p := 6) rfl ?_); refine ra_store ?a1 ?a2 105 (.tmp 6) (.tmp 85) ?a3 ge #[.string (⟨#[]⟩ : ByteArray), .int .i64 0, .string (⟨#[]⟩ : ByteArray), .slice none 0 0, .slice none 0 0] ?a4 ?a5 105 #[.string (⟨#[]⟩ : ByteArray), .int .i64 0, .string (⟨#[]⟩ : ByteArray), .slice none 0 0, .slice none 0 0] HI2.out.2.2.2.1 ?a6 ?a7 ?a8 ?_; (case a1 => rfl); (case a2 => rfl); (case a3 => rfl); (case a4 => rfl); (case a5 => rfl); (case a6 => rfl); (case a7 => rfl); (case a8 => exact Qi1_); intro wz hs1 hs2 hs3; have HR1 := Aside0.mk hs1; have HR2_ := Aside0.mk hs2; have HR3 := Aside0.mk hs3; clear hs1 hs2 hs3))
     refine bodyPost_ret (ra_results rfl _ _ ge 105 #[.string (⟨#[]⟩ : ByteArray), .int .i64 0, .string (⟨#[]⟩ : ByteArray), .slice none 0 0, .slice none 0 0] (0, 0) _ (.bool false) rfl HR1.out Tryz.underlying105 rfl Qi0_ rfl) rfl ?_; exact ⟨_, _, rfl, ra_nil _ _, ra_nil _ _, HR3.out _ _ HI2.out.1 HI2.out.2.2.1⟩
   rw [if_neg d6] at H
   have d6b0 : (bt fo i == 66) = false := beq_eq_false_iff_ne.mpr d6
   clear d6
   by_cases d7 : bt fo i = 78
   ·rw [if_pos d7] at H
    have d7b0 : (bt fo i == 78) = true := beq_iff_eq.mpr d7
    clear d7
    obtain ⟨⟨x, t⟩, B1, H⟩ := Option.bind_eq_some_iff.mp H
    have B1_ := Aside0.mk B1
    clear B1
    by_cases e1 : n.length < 1000
    rotate_left
    ·rw [if_neg e1] at H
     exact absurd H (by simp)
    rw [if_pos e1] at H
    have HL := Aside0.mk e1
    clear e1
    cases t with
    | true =>
     rw [if_pos rfl] at H
     have H' := Aside0.mk H
     clear H
     go_wp2_with (first | (go_at_call 117; (with_reducible refine (impl_ReadDecimal.calls wd x true _ ?tb B1_.out).mono ?_); (case tb => exact tabBelow HT.out HI.out.1); rintro e w2 ⟨rfl, hb⟩; have HI1 := Aside0.mk (ra_below HI.out hb); clear hb; have hcd3 : w2.cell? ⟨gg, 3, none⟩ = some vn := (blk_cell HI1.out.2.1.2.1 3).trans rfl; have hfd3 := blk_frozen HI1.out.2.1.2.1 3) | ((with_reducible refine gate_builtin (b := .append) (xs := #[.tmp 70, .tmp 72]) rfl ?_); at_builtin; refine Kd.R_append (Kd.int .i64) (w0 := w) w.heap.size rfl (.tmp 70) (.tmp 72) 22 2 (.int .i64 0) 8 rfl Tryz.underlying22 info2 rfl (by decide) (by omega) vn n x [.int .i64 x] (fun _ => True) (fun _ => False) rfl rfl ?aP (fun _ hk => hk.elim) (fun _ _ => trivial) ?aO ?aB ?aS ?aL ?_; (case aP => exact rfl); (case aB => exact HI1.out.1); (case aO => exact HI1.out.2.1.2.2.1); (case aS => exact HI1.out.1.size); (case aL => have := HL.out; omega); intro v73 w73 ho hb hg_ hat_; obtain ⟨Ax, cx, ex⟩ := Kd.R_slice ho; subst ex; have HO := Aside0.mk (And.intro ho (And.intro hb (And.intro hg_ hat_))); have hgg_ := (hg_.block gg (ra_blt HI1.out.2.1.2.1) (fun e1 => ra_ne HI1.out.2.1.2.2.1 HI1.out.2.1.2.1 (by decide) e1.symm)).trans HI1.out.2.1.2.1; have hce3 : w73.cell? ⟨gg, 3, none⟩ = some vn := (blk_cell hgg_ 3).trans rfl; have hfe3 := blk_frozen hgg_ 3; clear ho hb hg_ hat_ hgg_) | ((with_reducible refine gate_store (t := 22) (p := 74) rfl ?_); refine store_event (t := 22) (p := 74) (v := .tmp 73) (w1 := (w73.setCell ⟨gg, 3, none⟩ (.slice Ax (n ++ [x]).length cx))) ?hg ?ho ?hn ?hr ?_; (case ho => rfl); (case hg => rfl); (case hn => rfl); (case hr => exact Qh0_); intro w3 hw_; have HI2 := Aside0.mk (ra_s3 HI1.out HO.out.1 HO.out.2.1 HO.out.2.2.1 HO.out.2.2.2 hw_); clear hw_))
     go_roundg k1; (case measure => exact Qp0_); (case rel => exact ⟨(wrap64 (i + 1)), _, _, _, _, _, _, _, Qc0_, H', ⟨Qp0_⟩, ⟨HI2.out⟩⟩)
    | false =>
     rw [if_neg (fun h_ => Bool.false_ne_true h_)] at H
     simp only [Option.some.injEq, Prod.mk.injEq] at H; obtain ⟨rfl, rfl, rfl, rfl, rfl, rfl⟩ := H
     go_wp2_with (first | (go_at_call 117; (with_reducible refine (impl_ReadDecimal.calls wd x false _ ?tb B1_.out).mono ?_); (case tb => exact tabBelow HT.out HI.out.1); rintro e w2 ⟨rfl, hb⟩; have HI1 := Aside0.mk (ra_below HI.out hb); clear hb; have hcd3 : w2.cell? ⟨gg, 3, none⟩ = some vn := (blk_cell HI1.out.2.1.2.1 3).trans rfl; have hfd3 := blk_frozen HI1.out.2.1.2.1 3) | ((with_reducible refine gate_builtin (b := .append) (xs := #[.tmp 70, .tmp 72]) rfl ?_); at_builtin; refine Kd.R_append (Kd.int .i64) (w0 := w) w.heap.size rfl (.tmp 70) (.tmp 72) 22 2 (.int .i64 0) 8 rfl Tryz.underlying22 info2 rfl (by decide) (by omega) vn n x [.int .i64 x] (fun _ => True) (fun _ => False) rfl rfl ?aP (fun _ hk => hk.elim) (fun _ _ => trivial) ?aO ?aB ?aS ?aL ?_; (case aP => exact rfl); (case aB => exact HI1.out.1); (case aO => exact HI1.out.2.1.2.2.1); (case aS => exact HI1.out.1.size); (case aL => have := HL.out; omega); intro v73 w73 ho hb hg_ hat_; obtain ⟨Ax, cx, ex⟩ := Kd.R_slice ho; subst ex; have HO := Aside0.mk (And.intro ho (And.intro hb (And.intro hg_ hat_))); have hgg_ := (hg_.block gg (ra_blt HI1.out.2.1.2.1) (fun e1 => ra_ne HI1.out.2.1.2.2.1 HI1.out.2.1.2.1 (by decide) e1.symm)).trans HI1.out.2.1.2.1; have hce3 : w73.cell? ⟨gg, 3, none⟩ = some vn := (blk_cell hgg_ 3).trans rfl; have hfe3 := blk_frozen hgg_ 3; clear ho hb hg_ hat_ hgg_) | ((with_reducible refine gate_store (t := 22) (p := 74) rfl ?_); refine store_event (t := 22) (p := 74) (v := .tmp 73) (w1 := (w73.setCell ⟨gg, 3, none⟩ (.slice Ax (n ++ [x]).length cx))) ?hg ?ho ?hn ?hr ?_; (case ho => rfl); (case hg => rfl); (case hn => rfl); (case hr => exact Qh0_); intro w3 hw_; have HI2 := Aside0.mk (ra_s3 HI1.out HO.out.1 HO.out.2.1 HO.out.2.2.1 HO.out.2.2.2 hw_); clear hw_) | ((with_reducible refine gate_store (t := 105) (p := 6) rfl ?_); refine ra_store ?a1 ?a2 105 (.tmp 6) (.tmp 85) ?a3 ge #[.string (⟨#[]⟩ : ByteArray), .int .i64 0, .string (⟨#[]⟩ : ByteArray), .slice none 0 0, .slice none 0 0] ?a4 ?a5 105 #[.string (⟨#[]⟩ : ByteArray), .int .i64 0, .string (⟨#[]⟩ : ByteArray), .slice none 0 0, .slice none 0 0] HI2.out.2.2.2.1 ?a6 ?a7 ?a8 ?_; (case a1 => rfl); (case a2 => rfl); (case a3 => rfl); (case a4 => rfl); (case a5 => rfl); (case a6 => rfl); (case a7 => rfl); (case a8 => exact Qi1_); intro wz hs1 hs2 hs3; have HR1 := Aside0.mk hs1; have HR2_ := Aside0.mk hs2; have HR3 := Aside0.mk hs3; clear hs1 hs2 hs3))
     refine bodyPost_ret (ra_results rfl _ _ ge 105 #[.string (⟨#[]⟩ : ByteArray), .int .i64 0, .string (⟨#[]⟩ : ByteArray), .slice none 0 0, .slice none 0 0] (0, 0) _ (.bool false) rfl HR1.out Tryz.underlying105 rfl Qi0_ rfl) rfl ?_; exact ⟨_, _, rfl, ra_nil _ _, ra_nil _ _, HR3.out _ _ HI2.out.1 HI2.out.2.2.1⟩
   rw [if_neg d7] at H
   have d7b0 : (bt fo i == 78) = false := beq_eq_false_iff_ne.mpr d7
   clear d7
   by_cases d8 : bt fo i = 76
   ·rw [if_pos d8] at H
    have d8b0 : (bt fo i == 76) = true := beq_iff_eq.mpr d8
    clear d8
    obtain ⟨⟨xl, t⟩, B1, H⟩ := Option.bind_eq_some_iff.mp H
    have B1_ := Aside0.mk B1
    clear B1
    cases t with
    | true =>
     rw [if_pos rfl] at H
     have H' := Aside0.mk H
     clear H
     go_wp2_with (first | (go_at_call 118; (with_reducible refine (impl_ReadList.calls k1 wd xl true _ ?tb B1_.out).mono ?_); (case tb => exact tabBelow HT.out HI.out.1); rintro e w2 ⟨vx, rfl, hr, hb⟩; obtain ⟨Ax, cx, ex⟩ := Kd.R_slice hr; subst ex; have HI1 := Aside0.mk (ra_below HI.out hb); have HO := Aside0.mk (And.intro hb hr); clear hb hr; have hcd4 : w2.cell? ⟨gg, 4, none⟩ = some vl := (blk_cell HI1.out.2.1.2.1 4).trans rfl; have hfd4 := blk_frozen HI1.out.2.1.2.1 4) | ((with_reducible refine gate_store (t := 22) (p := 82) rfl ?_); refine store_event (t := 22) (p := 82) (v := .tmp 80) (w1 := (w2.setCell ⟨gg, 4, none⟩ (.slice Ax xl.length cx))) ?hg ?ho ?hn ?hr ?_; (case ho => rfl); (case hg => rfl); (case hn => rfl); (case hr => exact Qh0_); intro w3 hw_; have HI2 := Aside0.mk (ra_s4 HI.out HO.out.1 HO.out.2 hw_); clear hw_))
     go_roundg k1; (case measure => exact Qp0_); (case rel => exact ⟨(wrap64 (i + 1)), _, _, _, _, _, _, _, Qc0_, H', ⟨Qp0_⟩, ⟨HI2.out⟩⟩)
    | false =>
     rw [if_neg (fun h_ => Bool.false_ne_true h_)] at H
     simp only [Option.some.injEq, Prod.mk.injEq] at H; obtain ⟨rfl, rfl, rfl, rfl, rfl, rfl⟩ := H
     go_wp2_with (first | (go_at_call 118; (with_reducible refine (impl_ReadList.calls k1 wd xl false _ ?tb B1_.out).mono ?_); (case tb => exact tabBelow HT.out HI.out.1); rintro e w2 ⟨vx, rfl, hr, hb⟩; obtain ⟨Ax, cx, ex⟩ := Kd.R_slice hr; subst ex; have HI1 := Aside0.mk (ra_below HI.out hb); have HO := Aside0.mk (And.intro hb hr); clear hb hr; have hcd4 : w2.cell? ⟨gg, 4, none⟩ = some vl := (blk_cell HI1.out.2.1.2.1 4).trans rfl; have hfd4 := blk_frozen HI1.out.2.1.2.1 4) | ((with_reducible refine gate_store (t := 22) (p := 82) rfl ?_); refine store_event (t := 22) (p := 82) (v := .tmp 80) (w1 := (w2.setCell ⟨gg, 4, none⟩ (.slice Ax xl.length cx))) ?hg ?ho ?hn ?hr ?_; (case ho => rfl); (case hg => rfl); (case hn => rfl); (case hr => exact Qh0_); intro w3 hw_; have HI2 := Aside0.mk (ra_s4 HI.out HO.out.1 HO.out.2 hw_); clear hw_) | ((with_reducible refine gate_store (t := 105) (p := 6) rfl ?_); refine ra_store ?a1 ?a2 105 (.tmp 6) (.tmp 85) ?a3 ge #[.string (⟨#[]⟩ : ByteArray), .int .i64 0, .string (⟨#[]⟩ : ByteArray), .slice none 0 0, .slice none 0 0] ?a4 ?a5 105 #[.string (⟨#[]⟩ : ByteArray), .int .i64 0, .string (⟨#[]⟩ : ByteArray), .slice none 0 0, .slice none 0 0] HI2.out.2.2.2.1 ?a6 ?a7 ?a8 ?_; (case a1 => rfl); (case a2 => rfl); (case a3 => rfl); (case a4 => rfl); (case a5 => rfl); (case a6 => rfl); (case a7 => rfl); (case a8 => exact Qi1_); intro wz hs1 hs2 hs3; have HR1 := Aside0.mk hs1; have HR2_ := Aside0.mk hs2; have HR3 := Aside0.mk hs3; clear hs1 hs2 hs3))
     refine bodyPost_ret (ra_results rfl _ _ ge 105 #[.string (⟨#[]⟩ : ByteArray), .int .i64 0, .string (⟨#[]⟩ : ByteArray), .slice none 0 0, .slice none 0 0] (0, 0) _ (.bool false) rfl HR1.out Tryz.underlying105 rfl Qi0_ rfl) rfl ?_; exact ⟨_, _, rfl, ra_nil _ _, ra_nil _ _, HR3.out _ _ HI2.out.1 HI2.out.2.2.1⟩
   rw [if_neg d8] at H
   have d8b0 : (bt fo i == 76) = false := beq_eq_false_iff_ne.mpr d8
   have H' := Aside0.mk H
   clear d8 H
   go_wp2
   go_roundg k1; (case measure => exact Qp0_); (case rel => exact ⟨(wrap64 (i + 1)), _, _, _, _, _, _, _, Qc0_, H', ⟨Qp0_⟩, ⟨HI.out⟩⟩)
def impl_orNone.f (a0 : ByteArray) : Option (ByteArray) := if a0.toList = ([] : List UInt8) then (some (⟨#[110, 111, 110, 101]⟩ : ByteArray)) else (some a0)
set_option maxHeartbeats 8000000 in
set_option maxRecDepth 100000 in
theorem impl_orNone.calls (a0 : ByteArray) (r : ByteArray) (w : World) (h : impl_orNone.f a0 = some r) :
 Calls Tryz.prog 120 #[.string a0] w fun e w' => e = .returned (.string r) ∧ Drawn0 w w' := by
 have H : (if a0.toList = ([] : List UInt8) then (some (⟨#[110, 111, 110, 101]⟩ : ByteArray)) else (some a0)) = some r := h
 clear h
 by_cases c2 : a0.toList = ([] : List UInt8)
 ·rw [if_pos c2] at H
  have c2b0 := beq_iff_eq.mpr c2
  have c2b1 := bne_eq_false_iff_eq.mpr c2
  clear c2
  obtain rfl := Option.some.inj H
  go_enter Tryz.func120, Tryz.ntmps120
  go_wp2
  go_ret
  exact ⟨Qc0_, Qd0_⟩
 ·rw [if_neg c2] at H
  have c2b0 := beq_eq_false_iff_ne.mpr c2
  have c2b1 := bne_iff_ne.mpr c2
  obtain rfl := Option.some.inj H
  go_enter Tryz.func120, Tryz.ntmps120
  go_wp2
  go_ret
  exact ⟨Qc0_, Qd0_⟩
end Go.Proofs.YtbjmbfjbjkhhdaaGreatDoor.QFnTopOfAll
