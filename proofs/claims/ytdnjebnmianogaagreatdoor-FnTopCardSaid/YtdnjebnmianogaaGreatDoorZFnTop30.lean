/- Made small by wip/pack.py: lemmas and contracts that the law's row leans on. -/
import Derived.Test.YtdnjebnmianogaaGreatDoorZFnTop27
import Derived.Test.YtdnjebnmianogaaGreatDoorZFnTop28
import Derived.Test.YtdnjebnmianogaaGreatDoorZFnTop29
namespace Go.Proofs.YtdnjebnmianogaaGreatDoor.QFnTop
open Go.RowKit Go.Proofs.YtdnjebnmianogaaGreatDoorW.PrintWords Go.Proofs.YtdnjebnmianogaaGreatDoorW.PrintLast Go.Proofs.YtdnjebnmianogaaGreatDoorW.PrintMore
attribute [local go_sem] max2_int min2_int max_two min_two max_three min_three max_four min_four
set_option linter.unusedVariables false
set_option linter.unusedSimpArgs false
def spec_B10Data.l0 : Nat → List Int → Int → Int → Int → List ByteArray → List ByteArray → List Int → Int → Int → Option (List Int)
 | 0, _, _, _, _, _, _, _, _, _ => none
 | k + 1, x6, x7, x160000, x160001, x160002, x160003, x164000, x164001, x164002 => if x7 > 0 then (if 0 ≤ (IntKind.u64.wrap (x160000)) then ((spec_l00Src_pick.f x164000 x164001 x164002 (shl .i64 1 (IntKind.u64.wrap (x160000)))).bind fun bt170 => (if x6.length < 17592186044416 then (spec_B10Data.l0 k (x6 ++ [bt170.1]) (wrap64 (x7 - 1)) x160000 x160001 x160002 x160003 x164000 bt170.2.1 bt170.2.2) else (none))) else (none)) else (some x6)
def spec_B10Data.f (k : Nat) (l0 : List Int) (a1_0 : Int) (a1_1 : Int) (l1_2 : List ByteArray) (l1_3 : List ByteArray) : Option (List Int) := (spec_l00From.f l0).bind fun bt160 => ((spec_l00Src_pick.f bt160.1 bt160.2.1 bt160.2.2 9).bind fun bt167 => (spec_B10Data.l0 k (([] : List Int)) bt167.1 a1_0 a1_1 l1_2 l1_3 bt160.1 bt167.2.1 bt167.2.2))
set_option maxHeartbeats 8000000 in
set_option maxRecDepth 100000 in
theorem spec_B10Data.calls (k : Nat) (A0 : Option Addr) (c0 : Nat) (l0 : List Int) (a1_0 : Int) (a1_1 : Int) (A1_2 : Option Addr) (c1_2 : Nat) (l1_2 : List ByteArray) (A1_3 : Option Addr) (c1_3 : Nat) (l1_3 : List ByteArray) (r : List Int) (w : World) (hr0 : Kd.C (Kd.int .u8) w A0 l0.length l0) (hc0 : l0.length ≤ c0) (hr1_2 : Kd.C Kd.string w A1_2 l1_2.length l1_2) (hc1_2 : l1_2.length ≤ c1_2) (hr1_3 : Kd.C Kd.string w A1_3 l1_3.length l1_3) (hc1_3 : l1_3.length ≤ c1_3) (h : spec_B10Data.f k l0 a1_0 a1_1 l1_2 l1_3 = some r) :
 Calls Tryz.prog 6 #[.slice A0 l0.length c0, .agg #[.int .i64 a1_0, .int .i64 a1_1, .slice A1_2 l1_2.length c1_2, .slice A1_3 l1_3.length c1_3]] w fun e w' => ∃ v0_ : Value, e = .returned (v0_) ∧ Kd.R (Kd.int .i64) 2 w' w.heap.size (fun _ => True) v0_ r ∧ Below w.heap.size w w' := by
 have hu26 := Tryz.underlying26
 have HR0 := Aside0.mk hr0
 have HC0 := Aside0.mk hc0
 clear hr0 hc0
 have HR1_2 := Aside0.mk hr1_2
 have HC1_2 := Aside0.mk hc1_2
 clear hr1_2 hc1_2
 have HR1_3 := Aside0.mk hr1_3
 have HC1_3 := Aside0.mk hc1_3
 clear hr1_3 hc1_3
 have HB := Aside0.mk (Below.refl w.heap.size w)
 have H : ((spec_l00From.f l0).bind fun bt160 => ((spec_l00Src_pick.f bt160.1 bt160.2.1 bt160.2.2 9).bind fun bt167 => (spec_B10Data.l0 k (([] : List Int)) bt167.1 a1_0 a1_1 l1_2 l1_3 bt160.1 bt167.2.1 bt167.2.2))) = some r := h
 clear h
 replace H := Option.bind_eq_some_iff.mp H
 obtain ⟨⟨t160, t161, t162⟩, A30, H⟩ := H
 try dsimp only at H
 have A3 := Aside0.mk A30
 clear A30
 obtain ⟨y164, hy164⟩ : ∃ y_ : List Int, y_ = (([] : List Int)) := ⟨_, rfl⟩
 replace H : ((spec_l00Src_pick.f t160 t161 t162 9).bind fun bt167 => (spec_B10Data.l0 k y164 bt167.1 a1_0 a1_1 l1_2 l1_3 t160 bt167.2.1 bt167.2.2)) = some r := by first | (rw [hy164]; with_reducible exact H) | (have H2_ := (Option.bind_some _ _).symm.trans H; rw [hy164]; with_reducible exact H2_) | (have H2_ := (Option.bind_some _ _).symm.trans H; with_reducible exact H2_) | with_reducible exact H | (rw [hy164]; exact H) | exact H
 have Ny164 := Aside0.mk hy164
 clear hy164
 replace H := Option.bind_eq_some_iff.mp H
 obtain ⟨⟨t167, t168, t169⟩, A40, H⟩ := H
 try dsimp only at H
 have A4 := Aside0.mk A40
 clear A40
 have H' := Aside0.mk H
 clear H
 go_enter Tryz.func6, Tryz.ntmps6
 go_wp2_with (first | ((with_reducible refine gate_dst (N := 3) rfl ?_); refine box_event ?hg (N := 3) ?hd (cs := #[.int .i64 a1_0, .int .i64 a1_1, .slice A1_2 l1_2.length c1_2, .slice A1_3 l1_3.length c1_3]) (t := 26) ?hr ?_; (case hd => rfl); (case hg => rfl); (case hr => exact Qg0_); intro gb159 hg w5 hbox hb; have n0_ := Aside0.mk (below_step Qa0_ hb); have n1_ := Aside0.mk (hbox); have n2_ := Aside0.mk ((Qp1_ : w.heap.size ≤ gb159)); have n3_ := Aside0.mk ((Qp1_ : w.heap.size ≤ gb159)); clear HB; have HB := n0_; have BK159 := n1_; have GW159 := n2_; have GE159 := n3_; clear n0_ n1_ n2_ n3_; clear hb hbox hg) | ((with_reducible refine gate_callee (f := 24) rfl ?_); refine goesL_ (some 9) rfl rfl Tryz.func24 Qh0_ rfl #[.slice A0 l0.length c0] rfl Qb0_ ?_; (with_reducible refine (spec_l00From.calls _ _ l0 t160 t161 t162 w _ ?side1 ?side2 ?side3 A3.out).mono ?_); (case side1 => exact Qg_ GE159.out); (case side2 => exact HR0.out); (case side3 => exact HC0.out); rintro e w6 ⟨g163, rfl, hi, hb, hb2⟩; refine ⟨_, rfl, ?_⟩; have n0_ := Aside0.mk (blk_below (g := gb159) (o := .cells #[.int .i64 a1_0, .int .i64 a1_1, .slice A1_2 l1_2.length c1_2, .slice A1_3 l1_3.length c1_3] 26 (0, 0)) (Qk_ BK159.out) hb2); have n1_ := Aside0.mk (hb); have n2_ := Aside0.mk (hi); have n3_ := Aside0.mk (IsS85.ne_blk hi (blk_below (g := gb159) (o := .cells #[.int .i64 a1_0, .int .i64 a1_1, .slice A1_2 l1_2.length c1_2, .slice A1_3 l1_3.length c1_3] 26 (0, 0)) (Qk_ BK159.out) hb2) (by decide)); have n4_ := Aside0.mk (Ne.symm (IsS85.ne_blk hi (blk_below (g := gb159) (o := .cells #[.int .i64 a1_0, .int .i64 a1_1, .slice A1_2 l1_2.length c1_2, .slice A1_3 l1_3.length c1_3] 26 (0, 0)) (Qk_ BK159.out) hb2) (by decide))); clear BK159; clear HB; have BK159 := n0_; have HB := n1_; have HI163 := n2_; have NB163_159 := n3_; have NB159_163 := n4_; clear n0_ n1_ n2_ n3_ n4_; (try clear hb); (try clear hb2); (try clear hk); (try clear hi)) | ((with_reducible refine gate_dst (N := 10) rfl ?_); refine Kd.R_lit (Kd.int .i64) _ 2 ?hg (N := 10) ?hd (xs := ([] : List Int)) (inner := []) (ok := fun _ => True) (okp := fun _ => True) ?hr ?hp (fun _ hk => hk) trivial (Below.refl _ _) (Nat.le_refl _) (by simp) ?_; (case hd => rfl); (case hg => rfl); (case hr => exact Qg0_); (case hp => exact (Reps.none _ _)); intro v165 w7 ho8 hb hg_ hnew_; clear hg_ hnew_; (first | rw [← Ny164.out] at ho8 | (simp only [Int.reduceToNat] at ho8; rw [← Ny164.out] at ho8)); have n0_ := Aside0.mk (Kd.R_lower ho8 (below_size Qk0_)); have n1_ := Aside0.mk (blk_below (g := gb159) (o := .cells #[.int .i64 a1_0, .int .i64 a1_1, .slice A1_2 l1_2.length c1_2, .slice A1_3 l1_3.length c1_3] 26 (0, 0)) (Qk_ BK159.out) hb); have n2_ := Aside0.mk (IsS85.below Qp0_ hb); have n3_ := Aside0.mk (below_step Qk0_ hb); clear BK159; clear HI163; clear HB; have HO166 := n0_; have BK159 := n1_; have HI163 := n2_; have HB := n3_; clear n0_ n1_ n2_ n3_; clear hb ho8) | ((with_reducible refine gate_callee (f := 25) rfl ?_); refine goesL_ (some 12) rfl rfl Tryz.func25 Qh0_ rfl #[.pointer (some ⟨g163, 0, none⟩), .int .i64 9] rfl Qb0_ ?_; (with_reducible refine (spec_l00Src_pick.calls g163 t160 t161 t162 9 t167 t168 t169 w _ ?side1 ?side2 A4.out).mono ?_); (case side1 => repeat (first | (with_reducible first | exact HI163.out | apply IsS85.alloc | apply IsS85.drewN | apply IsS85.drew | apply IsS85.set_1 | apply IsS85.set_2 | refine IsS85.far ?_ NB163_159.out _) | exact HI163.out)); (case side2 => exact Qk0_); rintro e w9 ⟨rfl, hi, hb, hk⟩; refine ⟨_, rfl, ?_⟩; have n0_ := Aside0.mk (KeepBut.blk hk (g' := gb159) (o := .cells #[.int .i64 a1_0, .int .i64 a1_1, .slice A1_2 l1_2.length c1_2, .slice A1_3 l1_3.length c1_3] 26 (0, 0)) (Qk_ BK159.out) NB159_163.out (by simp)); have n1_ := Aside0.mk (Kd.R_mono (Kd.R_keep (IsS85.apart (show IsS85 w _ g163 t160 t161 t162 from Qp0_) (Qr_ HO166.out) (by decide)) hk (fun _ h => h.2)) (fun _ h => h.1)); have n2_ := Aside0.mk (hb); have n3_ := Aside0.mk (hi); clear BK159; clear HO166; clear HB; clear HI163; have BK159 := n0_; have HO166 := n1_; have HB := n2_; have HI163 := n3_; clear n0_ n1_ n2_ n3_; (try clear hb); (try clear hb2); (try clear hk); (try clear hi)))
 go_loopg [6, 7] k (fun kq v6 v7 w' => ∃ (x6_1 : List Int) (x7_1 : Int) (x164001_1 : Int) (x164002_1 : Int), v7 = .int .i64 x7_1 ∧ Aside0 (spec_B10Data.l0 kq x6_1 x7_1 a1_0 a1_1 l1_2 l1_3 t160 x164001_1 x164002_1 = some r) ∧ Aside0 (kq ≤ k) ∧ Aside0 (Kd.R (Kd.int .i64) 2 w' w.heap.size (fun _ => True) v6 x6_1) ∧ Aside0 (w'.heap[gb159]? = some (.cells #[.int .i64 a1_0, .int .i64 a1_1, (.slice A1_2 l1_2.length c1_2), (.slice A1_3 l1_3.length c1_3)] 26 (0, 0))) ∧ Aside0 (IsS85 w w' g163 t160 x164001_1 x164002_1) ∧ Aside0 (Below w.heap.size w w'))
 case atStart => exact ⟨(y164), (t167), (t168), (t169), Qc0_, H', ⟨Nat.le_refl _⟩, ⟨Qr_ HO166.out⟩, ⟨Qk_ BK159.out⟩, ⟨Qp0_⟩, ⟨Qk0_⟩⟩
 case round =>
  clear H'
  try clear c1
  try clear c2
  try clear p2
  try clear c6
  obtain ⟨x6_1, x7_1, x164001_1, x164002_1, rfl, HA, HK1, HO_6, BK159, HI163, HB⟩ := hrel
  cases gk with
  | zero => exact absurd HA.out (by simp [spec_B10Data.l0])
  | succ k1 =>
   have H := HA.out
   clear HA
   simp only [spec_B10Data.l0] at H
   by_cases c10 : x7_1 > 0
   ·rw [if_pos c10] at H
    have c10b0 := decide_eq_true c10
    clear c10
    obtain ⟨ji11, hji11⟩ : ∃ j_ : Int, (IntKind.u64.wrap (a1_0)) = j_ := ⟨_, rfl⟩
    replace H : (if 0 ≤ (ji11) then ((spec_l00Src_pick.f t160 x164001_1 x164002_1 (shl .i64 1 (ji11))).bind fun bt170 => (if x6_1.length < 17592186044416 then (spec_B10Data.l0 k1 (x6_1 ++ [bt170.1]) (wrap64 (x7_1 - 1)) a1_0 a1_1 l1_2 l1_3 t160 bt170.2.1 bt170.2.2) else (none))) else (none)) = some r := by first | (rw [hji11] at H; exact H) | (simp only [hji11] at H ⊢; exact H)
    by_cases c12 : 0 ≤ (ji11)
    ·rw [if_pos c12] at H
     have c12b0 := eq_true c12
     have c12b1 := decide_eq_true c12
     clear c12
     obtain ⟨ji13, hji13⟩ : ∃ j_ : Int, (shl .i64 1 (ji11)) = j_ := ⟨_, rfl⟩
     replace H : ((spec_l00Src_pick.f t160 x164001_1 x164002_1 (ji13)).bind fun bt170 => (if x6_1.length < 17592186044416 then (spec_B10Data.l0 k1 (x6_1 ++ [bt170.1]) (wrap64 (x7_1 - 1)) a1_0 a1_1 l1_2 l1_3 t160 bt170.2.1 bt170.2.2) else (none))) = some r := by first | (rw [hji13] at H; exact H) | (simp only [hji13] at H ⊢; exact H)
     have hji13_ : (IntKind.i64.wrap (1 * 2 ^ min (ji11).toNat 64)) = ji13 := hji13
     have hji13z : (ji11) ≤ 64 → (IntKind.i64.wrap (1 * 2 ^ (ji11).toNat)) = ji13 := shl_small hji13
     have hji13u : (IntKind.i64.wrap (2 ^ min (ji11).toNat 64)) = ji13 := by have h_ := hji13_; rw [Int.one_mul] at h_; exact h_
     have hji13v : (ji11) ≤ 64 → (IntKind.i64.wrap (2 ^ (ji11).toNat)) = ji13 := fun hle_ => by have h_ := hji13z hle_; rw [Int.one_mul] at h_; exact h_
     have hji13y : (wrap64 (1 * 2 ^ min (ji11).toNat 64)) = ji13 := (i64_w _).symm.trans hji13_
     have hji13x : (ji11) ≤ 64 → (wrap64 (1 * 2 ^ (ji11).toNat)) = ji13 := fun h_ => (i64_w _).symm.trans (hji13z h_)
     replace H := Option.bind_eq_some_iff.mp H
     obtain ⟨⟨t170, t171, t172⟩, A140, H⟩ := H
     try dsimp only at H
     have A14 := Aside0.mk A140
     clear A140
     by_cases c15 : x6_1.length < 17592186044416
     ·rw [if_pos c15] at H
      have LMc15 := Aside0.mk c15
      clear c15
      obtain ⟨y173, hy173⟩ : ∃ y_ : List Int, y_ = (x6_1 ++ [t170]) := ⟨_, rfl⟩
      replace H : (spec_B10Data.l0 k1 y173 (wrap64 (x7_1 - 1)) a1_0 a1_1 l1_2 l1_3 t160 t171 t172) = some r := by first | (rw [hy173]; with_reducible exact H) | (have H2_ := (Option.bind_some _ _).symm.trans H; rw [hy173]; with_reducible exact H2_) | (have H2_ := (Option.bind_some _ _).symm.trans H; with_reducible exact H2_) | with_reducible exact H | (rw [hy173]; exact H) | exact H
      have Ny173 := Aside0.mk hy173
      clear hy173
      have H' := Aside0.mk H
      clear H
      have hnb16 := NB159_163.out
      have hnc16 := NB163_159.out
      have hcz17_0 : wr.cell? ⟨gb159, 0, none⟩ = some (.int .i64 a1_0) := (blk_cell BK159.out 0).trans rfl
      have hcz17_1 : wr.cell? ⟨gb159, 1, none⟩ = some (.int .i64 a1_1) := (blk_cell BK159.out 1).trans rfl
      have hcz17_2 : wr.cell? ⟨gb159, 2, none⟩ = some (.slice A1_2 l1_2.length c1_2) := (blk_cell BK159.out 2).trans rfl
      have hcz17_3 : wr.cell? ⟨gb159, 3, none⟩ = some (.slice A1_3 l1_3.length c1_3) := (blk_cell BK159.out 3).trans rfl
      have hfz17_0 := blk_frozen BK159.out 0
      have hfz17_1 := blk_frozen BK159.out 1
      have hfz17_2 := blk_frozen BK159.out 2
      have hfz17_3 := blk_frozen BK159.out 3
      go_wp2_with (first | ((with_reducible refine gate_callee (f := 25) rfl ?_); refine goesL_ (some 23) rfl rfl Tryz.func25 Qh0_ rfl #[.pointer (some ⟨g163, 0, none⟩), .int .i64 ji13] rfl (by (try simp only [List.map_toArray, List.map_cons, List.map_nil]); first | done | (simp only [hji13]; rfl) | rfl | (simp only [List.length_drop, List.length_take]; rfl)) ?_; (with_reducible refine (spec_l00Src_pick.calls g163 t160 x164001_1 x164002_1 ji13 t170 t171 t172 w _ ?side1 ?side2 A14.out).mono ?_); (case side1 => repeat (first | (with_reducible first | exact HI163.out | apply IsS85.alloc | apply IsS85.drewN | apply IsS85.drew | apply IsS85.set_1 | apply IsS85.set_2 | refine IsS85.far ?_ NB163_159.out _) | exact HI163.out)); (case side2 => exact Qk0_); rintro e w18 ⟨rfl, hi, hb, hk⟩; refine ⟨_, rfl, ?_⟩; have n0_ := Aside0.mk (Kd.R_mono (Kd.R_keep (IsS85.apart (show IsS85 w _ g163 t160 x164001_1 x164002_1 from Qp0_) (Qr_ HO_6.out) (by decide)) hk (fun _ h => h.2)) (fun _ h => h.1)); have n1_ := Aside0.mk (KeepBut.blk hk (g' := gb159) (o := .cells #[.int .i64 a1_0, .int .i64 a1_1, .slice A1_2 l1_2.length c1_2, .slice A1_3 l1_3.length c1_3] 26 (0, 0)) (Qk_ BK159.out) NB159_163.out (by simp)); have n2_ := Aside0.mk (hb); have n3_ := Aside0.mk (hi); clear HO_6; clear BK159; clear HB; clear HI163; have HO_6 := n0_; have BK159 := n1_; have HB := n2_; have HI163 := n3_; clear n0_ n1_ n2_ n3_; (try clear hb); (try clear hb2); (try clear hk); (try clear hi)) | ((with_reducible refine gate_builtin (b := .append) (xs := #[.tmp 17, .tmp 24]) rfl ?_); at_builtin; refine Kd.R_append (Kd.int .i64) (w0 := w) w.heap.size rfl (.tmp 17) (.tmp 24) 29 2 (.int .i64 0) 8 rfl Tryz.underlying29 info2 rfl (by decide) (by omega) u6 x6_1 t170 [.int .i64 t170] (fun _ => True) (fun _ => False) rfl rfl ?aP (fun _ hk => hk.elim) ?aF ?aO ?aB ?aS ?aL ?_; (case aP => exact rfl); (case aB => exact Qk0_); (case aF => exact (fun _ _ => trivial)); (case aO => exact (Qr_ HO_6.out)); (case aS => exact (below_size Qk0_)); (case aL => have := LMc15.out; omega); intro v174 w19 ho hb hg hat; rw [← Ny173.out] at ho; have n0_ := Aside0.mk (blk_grown (g := gb159) (o := .cells #[.int .i64 a1_0, .int .i64 a1_1, .slice A1_2 l1_2.length c1_2, .slice A1_3 l1_3.length c1_3] 26 (0, 0)) (Qk_ BK159.out) hg (Kd.R_ne HO_6.out BK159.out (by decide))); have n1_ := Aside0.mk (IsS85.grown Qp0_ hg (IsS85.own_ne HI163.out HO_6.out (by decide))); have n2_ := Aside0.mk (hb); have n3_ := Aside0.mk (ho); clear BK159; clear HI163; clear HB; clear HO_6; have BK159 := n0_; have HI163 := n1_; have HB := n2_; have HO175 := n3_; clear n0_ n1_ n2_ n3_; clear ho hb hg hat))
      go_roundg k1
      case measure => have := HK1.out; omega
      case rel => exact ⟨(y173), (wrap64 (x7_1 - 1)), (t171), (t172), Qc0_, H', ⟨Qs0_⟩, ⟨Qr_ HO175.out⟩, ⟨Qk_ BK159.out⟩, ⟨Qp0_⟩, ⟨Qk0_⟩⟩
     ·rw [if_neg c15] at H
      exact absurd H (by simp)
    ·rw [if_neg c12] at H
     exact absurd H (by simp)
   ·rw [if_neg c10] at H
    have c10b0 := decide_eq_false c10
    clear c10
    obtain rfl := Option.some.inj H
    go_wp2
    go_ret
    exact ⟨_, Qd0_, Qr_ HO_6.out, Qk0_⟩
def impl_areIn.l0 : Nat → Int → Int → List Int → Int → Int → Option (Bool)
 | 0, _, _, _, _, _ => none
 | k + 1, x1, x2, x9, x10, x11 => if x11 < x10 then (if 0 ≤ x11 then (if x11 < (x9.length : Int) then ((impl_within.f (rd x9 x11) x1 x2).bind fun t177 => (if t177 = true then (impl_areIn.l0 k x1 x2 x9 x10 (wrap64 (x11 + 1))) else (some false))) else (none)) else (none)) else (some true)
def impl_areIn.f (k : Nat) (l0 : List Int) (a1 : Int) (a2 : Int) : Option (Bool) := impl_areIn.l0 k a1 a2 l0 (l0.length : Int) 0
set_option maxHeartbeats 8000000 in
set_option maxRecDepth 100000 in
theorem impl_areIn.calls (k : Nat) (A0 : Option Addr) (c0 : Nat) (l0 : List Int) (a1 : Int) (a2 : Int) (r : Bool) (w : World) (hr0 : Kd.C (Kd.int .i64) w A0 l0.length l0) (hc0 : l0.length ≤ c0) (h : impl_areIn.f k l0 a1 a2 = some r) :
 Calls Tryz.prog 26 #[.slice A0 l0.length c0, .int .i64 a1, .int .i64 a2] w fun e w' => e = .returned (.bool r) ∧ Drawn0 w w' := by
 have HR0 := Aside0.mk hr0
 have HC0 := Aside0.mk hc0
 clear hr0 hc0
 have H : (impl_areIn.l0 k a1 a2 l0 (l0.length : Int) 0) = some r := h
 clear h
 have H' := Aside0.mk H
 clear H
 go_enter Tryz.func26, Tryz.ntmps26
 go_wp2
 go_loopg [11] k (fun kq v11 w' => ∃ (x11_1 : Int), v11 = .int .i64 x11_1 ∧ Aside0 (impl_areIn.l0 kq a1 a2 l0 (l0.length : Int) x11_1 = some r) ∧ Aside0 (kq ≤ k) ∧ Drawn0 w w')
 case atStart => exact ⟨(0), Qc0_, H', ⟨Nat.le_refl _⟩, Qf0_⟩
 case round =>
  clear H'
  try clear c2
  try clear p2
  obtain ⟨x11_1, rfl, HA, HK1, ⟨m1, rfl⟩⟩ := hrel
  cases gk with
  | zero => exact absurd HA.out (by simp [impl_areIn.l0])
  | succ k1 =>
   have H := HA.out
   clear HA
   simp only [impl_areIn.l0] at H
   by_cases c4 : x11_1 < (l0.length : Int)
   ·rw [if_pos c4] at H
    have c4b0 := decide_eq_true c4
    clear c4
    by_cases c5 : 0 ≤ x11_1
    ·rw [if_pos c5] at H
     have c5b0 := decide_eq_true c5
     clear c5
     by_cases c6 : x11_1 < (l0.length : Int)
     ·rw [if_pos c6] at H
      have c6b0 := decide_eq_true c6
      clear c6
      replace H := Option.bind_eq_some_iff.mp H
      obtain ⟨t177, A70, H⟩ := H
      try dsimp only at H
      have A7 := Aside0.mk A70
      clear A70
      by_cases c8 : t177 = true
      ·subst c8
       rw [if_pos rfl] at H
       have H1 := H
       clear H
       have H := H1
       clear H1
       have H' := Aside0.mk H
       clear H
       have p176 : 0 ≤ (x11_1 : Int) := of_decide_eq_true Qe0_
       have q176 : x11_1 < (l0.length : Int) := of_decide_eq_true Qe0_
       obtain ⟨ad176, e176, hx176_0⟩ := Kd.at_int HR0.out x11_1 p176 q176
       cases e176
       replace p176 := eq_true p176
       replace q176 := eq_true q176
       go_wp2_with (first | ((with_reducible refine gate_callee (f := 52) rfl ?_); refine goesL_ (some 18) rfl rfl Tryz.func52 Qh0_ rfl #[.int .i64 (rd l0 x11_1), .int .i64 a1, .int .i64 a2] rfl Qb0_ ?_; (with_reducible refine (impl_within.calls (rd l0 x11_1) a1 a2 true _ A7.out).mono ?_); rintro e w' ⟨rfl, ⟨nd, rfl⟩⟩; refine ⟨_, rfl, ?_⟩))
       go_roundg k1
       case measure => have := HK1.out; omega
       case rel => exact ⟨(wrap64 (x11_1 + 1)), Qc0_, H', ⟨Qs0_⟩, Qf0_⟩
      ·replace c8 := Bool.eq_false_iff.mpr c8
       subst c8
       rw [if_neg (show ¬ (false = true) by decide)] at H
       have H1 := H
       clear H
       have H := H1
       clear H1
       obtain rfl := Option.some.inj H
       have p176 : 0 ≤ (x11_1 : Int) := of_decide_eq_true Qe0_
       have q176 : x11_1 < (l0.length : Int) := of_decide_eq_true Qe0_
       obtain ⟨ad176, e176, hx176_0⟩ := Kd.at_int HR0.out x11_1 p176 q176
       cases e176
       replace p176 := eq_true p176
       replace q176 := eq_true q176
       go_wp2_with (first | ((with_reducible refine gate_callee (f := 52) rfl ?_); refine goesL_ (some 18) rfl rfl Tryz.func52 Qh0_ rfl #[.int .i64 (rd l0 x11_1), .int .i64 a1, .int .i64 a2] rfl Qb0_ ?_; (with_reducible refine (impl_within.calls (rd l0 x11_1) a1 a2 false _ A7.out).mono ?_); rintro e w' ⟨rfl, ⟨nd, rfl⟩⟩; refine ⟨_, rfl, ?_⟩))
       go_ret
       exact ⟨Qc0_, Qf0_⟩
     ·rw [if_neg c6] at H
      exact absurd H (by simp)
    ·rw [if_neg c5] at H
     exact absurd H (by simp)
   ·rw [if_neg c4] at H
    have c4b0 := decide_eq_false c4
    clear c4
    obtain rfl := Option.some.inj H
    go_wp2
    go_ret
    exact ⟨Qc0_, Qf0_⟩
theorem tabBelow0 {w w' : World} (h : Lib.TabIs Tryz.prog w "internal/strconv.uint64pow10" .u64 Lib.pow10Tab) (hb : Below w.heap.size w w') : Lib.TabIs Tryz.prog w' "internal/strconv.uint64pow10" .u64 Lib.pow10Tab := by
 unfold Lib.TabIs World.var? at *
 cases hg : Tryz.prog.globalNamed "internal/strconv.uint64pow10" with
 | none => simp [hg] at h
 | some g =>
  simp only [hg, Option.bind_some] at h ⊢
  have hlt : g < w.heap.size := by
   rcases Nat.lt_or_ge g w.heap.size with h1 | h1
   ·exact h1
   ·simp [Array.getElem?_eq_none h1] at h
  rw [hb.block g hlt]
  exact h
def LibW (w : World) : Prop := Lib.TabIs Tryz.prog w "internal/strconv.uint64pow10" .u64 Lib.pow10Tab ∧ (∃ ev, w.cell? ⟨6, 0, none⟩ = some ev ∧ (ev = .nilIface ∨ ∃ te pe, ev = .iface te pe)) ∧ (∃ ev, w.cell? ⟨7, 0, none⟩ = some ev ∧ (ev = .nilIface ∨ ∃ te pe, ev = .iface te pe))
theorem tabBelow {w w' : World} (h : LibW w) (hb : Below w.heap.size w w') : LibW w' := by
 obtain ⟨h1, ⟨e1, h2, h3⟩, ⟨e2, h4, h5⟩⟩ := h
 exact ⟨tabBelow0 h1 hb, ⟨e1, (hb.cell (World.block_lt_of_cell? w _ h2)).trans h2, h3⟩, ⟨e2, (hb.cell (World.block_lt_of_cell? w _ h4)).trans h4, h5⟩⟩
def strconv_FormatInt.f (a0 : Int) (a1 : Int) : Option (ByteArray) := if a1 = 10 ∧ -9223372036854775808 ≤ a0 ∧ a0 ≤ 9223372036854775807 then some ⟨(Lib.itoa a0).toArray⟩ else none
theorem strconv_FormatInt.calls (a0 : Int) (a1 : Int) (r : ByteArray) (w : World) (hT : LibW w) (h : strconv_FormatInt.f a0 a1 = some r) :
 Calls Tryz.prog 32 #[.int .i64 a0, .int .i64 a1] w fun e w' => e = .returned (.string r) ∧ Below w.heap.size w w' := by
 unfold strconv_FormatInt.f at h
 by_cases hc : a1 = 10 ∧ -9223372036854775808 ≤ a0 ∧ a0 ≤ 9223372036854775807
 ·rw [if_pos hc] at h
  obtain rfl := Option.some.inj h
  obtain ⟨rfl, h0, h1⟩ := hc
  refine (Tryz.strconv_FormatInt_10 a0 h0 h1 w hT.1).mono ?_
  rintro e w' ⟨he, k, os, rfl⟩
  exact ⟨he, Go.Lib.below_grow _ w (Nat.le_refl _) k os⟩
 ·rw [if_neg hc] at h
  cases h
def impl_Decimal.f (a0 : Int) : Option (ByteArray) := (strconv_FormatInt.f a0 10).bind fun t178 => (some t178)
set_option maxHeartbeats 8000000 in
set_option maxRecDepth 100000 in
theorem impl_Decimal.calls (a0 : Int) (r : ByteArray) (w : World) (hT : LibW w) (h : impl_Decimal.f a0 = some r) :
 Calls Tryz.prog 9 #[.int .i64 a0] w fun e w' => e = .returned (.string r) ∧ Below w.heap.size w w' := by
 have HT := Aside0.mk hT
 clear hT
 have HB := Aside0.mk (Below.refl w.heap.size w)
 have H : ((strconv_FormatInt.f a0 10).bind fun t178 => (some t178)) = some r := h
 clear h
 replace H := Option.bind_eq_some_iff.mp H
 obtain ⟨t178, A20, H⟩ := H
 try dsimp only at H
 have A2 := Aside0.mk A20
 clear A20
 obtain rfl := Option.some.inj H
 go_enter Tryz.func9, Tryz.ntmps9
 go_wp2_with (first | ((with_reducible refine gate_callee (f := 32) rfl ?_); refine goesL_ (some 4) rfl rfl Tryz.func32 Qh0_ rfl #[.int .i64 a0, .int .i64 10] rfl Qb0_ ?_; (with_reducible refine (strconv_FormatInt.calls a0 10 t178 _ ?tb A2.out).mono ?_); (case tb => exact Qw0_); rintro e w3 ⟨rfl, hb⟩; refine ⟨_, rfl, ?_⟩; have n0_ := Aside0.mk (below_step Qa0_ hb); clear HB; have HB := n0_; clear n0_; (try clear hb); (try clear hb2); (try clear hk); (try clear hi)))
 go_ret
 exact ⟨Qd0_, Qa0_⟩
def joinT (xs : List ByteArray) (sep : ByteArray) : ByteArray := ⟨(Lib.join (xs.map (·.data.toList)) sep.data.toList).toArray⟩
def strings_Join.f (l0 : List ByteArray) (a1 : ByteArray) : Option (ByteArray) := if l0.length ≤ 140737488355328 ∧ (joinT l0 a1).size ≤ 140737488355328 then some (joinT l0 a1) else none
theorem strings_Join.calls (A0 : Option Addr) (c0 : Nat) (l0 : List ByteArray) (a1 : ByteArray) (r : ByteArray) (w : World) (hr0 : Kd.C Kd.string w A0 l0.length l0) (hc0 : l0.length ≤ c0) (h : strings_Join.f l0 a1 = some r) :
 Calls Tryz.prog 57 #[.slice A0 l0.length c0, .string a1] w fun e w' => e = .returned (.string r) ∧ Below w.heap.size w w' := by
 unfold strings_Join.f at h
 by_cases hl : l0.length ≤ 140737488355328 ∧ (joinT l0 a1).size ≤ 140737488355328
 ·rw [if_pos hl] at h
  obtain rfl := Option.some.inj h
  by_cases h0 : l0.length = 0
  ·have hnil : l0 = [] := List.length_eq_zero_iff.1 h0
   subst hnil
   refine (Tryz.strings_Join_none A0 c0 a1 w).mono fun e w' ⟨he, hw⟩ => ?_
   subst hw
   exact ⟨he, Below.refl _ _⟩
  ·obtain ⟨⟨bk, o, sp⟩, hA, hx⟩ := Kd.at_string hr0 0 (by decide) (by omega)
   subst hA
   have hx0 : w.cell? ⟨bk, o, sp⟩ = some (.string (rdOf ByteArray.empty l0 0)) := by simpa [Addr.add] using hx
   cases sp with
   | some s =>
    exfalso
    simp only [World.cell?] at hx0
    split at hx0
    ·exact absurd hx0 (by simp)
    ·exact absurd hx0 (by simp)
   | none =>
    have hcell : ∀ (j : Nat) x, l0[j]? = some x → w.cell? ⟨bk, o + j, none⟩ = some (.string x) := by
     intro j x hj
     obtain ⟨hjl, rfl⟩ := List.getElem?_eq_some_iff.1 hj
     obtain ⟨ad2, hA2, hx2⟩ := Kd.at_string hr0 (j : Int) (by omega) (by omega)
     injection hA2 with hA2
     subst hA2
     have e : rdOf ByteArray.empty l0 (j : Int) = l0[j] := by
      unfold rdOf
      rw [Int.toNat_natCast, List.getD_eq_getElem?_getD, List.getElem?_eq_getElem hjl]; rfl
     rw [e, Int.toNat_natCast] at hx2
     by_cases hj0 : j = 0
     ·subst hj0
      simpa [Addr.add] using hx2
     ·simpa [Addr.add, hj0] using hx2
    have hb : bk < w.heap.size := World.block_lt_of_cell? w _ hx0
    exact Tryz.strings_Join bk o c0 l0 a1 w hcell hb hl.1 hc0 (by have := hl.2; unfold joinT at this; exact this)
 ·rw [if_neg hl] at h
  exact absurd h (by simp)
def impl_listText.l0 : Nat → List ByteArray → List Int → Int → Int → Option (ByteArray)
 | 0, _, _, _, _ => none
 | k + 1, x3, x10, x11, x12 => if x12 < x11 then (if 0 ≤ x12 then (if x12 < (x10.length : Int) then ((impl_Decimal.f (rd x10 x12)).bind fun t183 => (if x3.length < 8796093022208 then (impl_listText.l0 k (x3 ++ [t183]) x10 x11 (wrap64 (x12 + 1))) else (none))) else (none)) else (none)) else ((strings_Join.f x3 (⟨#[44]⟩ : ByteArray)).bind fun t187 => (some t187))
def impl_listText.f (k : Nat) (l0 : List Int) : Option (ByteArray) := if (l0.length : Int) = 0 then (some (⟨#[110, 111, 110, 101]⟩ : ByteArray)) else (impl_listText.l0 k (([] : List ByteArray)) l0 (l0.length : Int) 0)
set_option maxHeartbeats 8000000 in
set_option maxRecDepth 100000 in
theorem impl_listText.calls (k : Nat) (A0 : Option Addr) (c0 : Nat) (l0 : List Int) (r : ByteArray) (w : World) (hr0 : Kd.C (Kd.int .i64) w A0 l0.length l0) (hc0 : l0.length ≤ c0) (hT : LibW w) (h : impl_listText.f k l0 = some r) :
 Calls Tryz.prog 27 #[.slice A0 l0.length c0] w fun e w' => e = .returned (.string r) ∧ Below w.heap.size w w' := by
 have HT := Aside0.mk hT
 clear hT
 have HR0 := Aside0.mk hr0
 have HC0 := Aside0.mk hc0
 clear hr0 hc0
 have HB := Aside0.mk (Below.refl w.heap.size w)
 have H : (if (l0.length : Int) = 0 then (some (⟨#[110, 111, 110, 101]⟩ : ByteArray)) else (impl_listText.l0 k (([] : List ByteArray)) l0 (l0.length : Int) 0)) = some r := h
 clear h
 by_cases c2 : (l0.length : Int) = 0
 ·rw [if_pos c2] at H
  have c2b0 := beq_iff_eq.mpr c2
  have c2b1 := bne_eq_false_iff_eq.mpr c2
  clear c2
  obtain rfl := Option.some.inj H
  go_enter Tryz.func27, Tryz.ntmps27
  go_wp2
  go_ret
  exact ⟨Qd0_, Qa0_⟩
 ·rw [if_neg c2] at H
  have c2b0 := beq_eq_false_iff_ne.mpr c2
  have c2b1 := bne_iff_ne.mpr c2
  have c2b2 : ¬ (l0 = []) := fun h_ => c2 (by rw [h_]; rfl)
  obtain ⟨y179, hy179⟩ : ∃ y_ : List ByteArray, y_ = (([] : List ByteArray)) := ⟨_, rfl⟩
  replace H : (impl_listText.l0 k y179 l0 (l0.length : Int) 0) = some r := by first | (rw [hy179]; with_reducible exact H) | (have H2_ := (Option.bind_some _ _).symm.trans H; rw [hy179]; with_reducible exact H2_) | (have H2_ := (Option.bind_some _ _).symm.trans H; with_reducible exact H2_) | with_reducible exact H | (rw [hy179]; exact H) | exact H
  have Ny179 := Aside0.mk hy179
  clear hy179
  have H' := Aside0.mk H
  clear H
  go_enter Tryz.func27, Tryz.ntmps27
  go_wp2_with (first | ((with_reducible refine gate_dst (N := 9) rfl ?_); refine Kd.R_lit Kd.string _ 9 ?hg (N := 9) ?hd (xs := ([] : List ByteArray)) (inner := []) (ok := fun _ => True) (okp := fun _ => True) ?hr ?hp (fun _ hk => hk) trivial (Below.refl _ _) (Nat.le_refl _) (by simp) ?_; (case hd => rfl); (case hg => rfl); (case hr => exact Qg0_); (case hp => exact (Reps.none _ _)); intro v180 w3 ho4 hb hg_ hnew_; clear hg_ hnew_; (first | rw [← Ny179.out] at ho4 | (simp only [Int.reduceToNat] at ho4; rw [← Ny179.out] at ho4)); have n0_ := Aside0.mk (Kd.R_lower ho4 (below_size Qa0_)); have n1_ := Aside0.mk (below_step Qa0_ hb); clear HB; have HO181 := n0_; have HB := n1_; clear n0_ n1_; clear hb ho4))
  go_loopg [3, 12] k (fun kq v3 v12 w' => ∃ (x3_1 : List ByteArray) (x12_1 : Int), v12 = .int .i64 x12_1 ∧ Aside0 (impl_listText.l0 kq x3_1 l0 (l0.length : Int) x12_1 = some r) ∧ Aside0 (kq ≤ k) ∧ Aside0 (Kd.R Kd.string 9 w' w.heap.size (fun _ => True) v3 x3_1) ∧ Aside0 (Below w.heap.size w w'))
  case atStart => exact ⟨(y179), (0), Qc0_, H', ⟨Nat.le_refl _⟩, ⟨Qr_ HO181.out⟩, ⟨Qa0_⟩⟩
  case round =>
   clear H'
   try clear c2
   try clear c2b0
   try clear c2b1
   try clear c2b2
   try clear p2
   obtain ⟨x3_1, x12_1, rfl, HA, HK1, HO_3, HB⟩ := hrel
   cases gk with
   | zero => exact absurd HA.out (by simp [impl_listText.l0])
   | succ k1 =>
    have H := HA.out
    clear HA
    simp only [impl_listText.l0] at H
    by_cases c5 : x12_1 < (l0.length : Int)
    ·rw [if_pos c5] at H
     have c5b0 := decide_eq_true c5
     clear c5
     by_cases c6 : 0 ≤ x12_1
     ·rw [if_pos c6] at H
      have c6b0 := decide_eq_true c6
      clear c6
      by_cases c7 : x12_1 < (l0.length : Int)
      ·rw [if_pos c7] at H
       have c7b0 := decide_eq_true c7
       clear c7
       replace H := Option.bind_eq_some_iff.mp H
       obtain ⟨t183, A80, H⟩ := H
       try dsimp only at H
       have A8 := Aside0.mk A80
       clear A80
       by_cases c9 : x3_1.length < 8796093022208
       ·rw [if_pos c9] at H
        have LMc9 := Aside0.mk c9
        clear c9
        obtain ⟨y184, hy184⟩ : ∃ y_ : List ByteArray, y_ = (x3_1 ++ [t183]) := ⟨_, rfl⟩
        replace H : (impl_listText.l0 k1 y184 l0 (l0.length : Int) (wrap64 (x12_1 + 1))) = some r := by first | (rw [hy184]; with_reducible exact H) | (have H2_ := (Option.bind_some _ _).symm.trans H; rw [hy184]; with_reducible exact H2_) | (have H2_ := (Option.bind_some _ _).symm.trans H; with_reducible exact H2_) | with_reducible exact H | (rw [hy184]; exact H) | exact H
        have Ny184 := Aside0.mk hy184
        clear hy184
        have H' := Aside0.mk H
        clear H
        have p182 : 0 ≤ (x12_1 : Int) := of_decide_eq_true Qe0_
        have q182 : x12_1 < (l0.length : Int) := of_decide_eq_true Qe0_
        obtain ⟨ad182, e182, hx182_0⟩ := Kd.at_int HR0.out x12_1 p182 q182
        cases e182
        replace hx182_0 := (HB.out.cell (World.block_lt_of_cell? w _ hx182_0)).trans hx182_0
        replace p182 := eq_true p182
        replace q182 := eq_true q182
        go_wp2_with (first | ((with_reducible refine gate_callee (f := 9) rfl ?_); refine goesL_ (some 18) rfl rfl Tryz.func9 Qh0_ rfl #[.int .i64 (rd l0 x12_1)] rfl Qb0_ ?_; (with_reducible refine (impl_Decimal.calls (rd l0 x12_1) t183 _ ?tb A8.out).mono ?_); (case tb => exact Qw0_); rintro e w10 ⟨rfl, hb⟩; refine ⟨_, rfl, ?_⟩; have n0_ := Aside0.mk (Kd.R_below (Qr_ HO_3.out) hb); have n1_ := Aside0.mk (below_step Qa0_ hb); clear HO_3; clear HB; have HO_3 := n0_; have HB := n1_; clear n0_ n1_; (try clear hb); (try clear hb2); (try clear hk); (try clear hi)) | ((with_reducible refine gate_builtin (b := .append) (xs := #[.tmp 16, .tmp 19]) rfl ?_); at_builtin; refine Kd.R_append Kd.string (w0 := w) w.heap.size rfl (.tmp 16) (.tmp 19) 24 9 (.string ⟨#[]⟩) 16 rfl Tryz.underlying24 info9 rfl (by decide) (by omega) u3 x3_1 t183 [.string t183] (fun _ => True) (fun _ => False) rfl rfl ?aP (fun _ hk => hk.elim) ?aF ?aO ?aB ?aS ?aL ?_; (case aP => exact rfl); (case aB => exact Qa0_); (case aF => exact (fun _ _ => trivial)); (case aO => exact (Qr_ HO_3.out)); (case aS => exact (below_size Qa0_)); (case aL => have := LMc9.out; omega); intro v185 w11 ho hb hg hat; rw [← Ny184.out] at ho; have n0_ := Aside0.mk (hb); have n1_ := Aside0.mk (ho); clear HB; clear HO_3; have HB := n0_; have HO186 := n1_; clear n0_ n1_; clear ho hb hg hat))
        go_roundg k1
        case measure => have := HK1.out; omega
        case rel => exact ⟨(y184), (wrap64 (x12_1 + 1)), Qc0_, H', ⟨Qs0_⟩, ⟨Qr_ HO186.out⟩, ⟨Qa0_⟩⟩
       ·rw [if_neg c9] at H
        exact absurd H (by simp)
      ·rw [if_neg c7] at H
       exact absurd H (by simp)
     ·rw [if_neg c6] at H
      exact absurd H (by simp)
    ·rw [if_neg c5] at H
     have c5b0 := decide_eq_false c5
     clear c5
     replace H := Option.bind_eq_some_iff.mp H
     obtain ⟨t187, A120, H⟩ := H
     try dsimp only at H
     have A12 := Aside0.mk A120
     clear A120
     obtain rfl := Option.some.inj H
     obtain ⟨Ao13, co13, eo13⟩ := Kd.R_slice HO_3.out
     subst eo13
     go_wp2_with (first | ((with_reducible refine gate_callee (f := 57) rfl ?_); refine goesL_ (some 23) rfl rfl Tryz.func57 Qh0_ rfl #[.slice Ao13 x3_1.length co13, .string (⟨#[44]⟩ : ByteArray)] rfl Qb0_ ?_; (with_reducible refine (strings_Join.calls _ _ x3_1 (⟨#[44]⟩ : ByteArray) t187 _ ?side1 ?side2 A12.out).mono ?_); (case side1 => exact Qc_ (Kd.R_reads' HO_3.out).2.2); (case side2 => exact (Kd.R_reads' HO_3.out).2.1); rintro e w14 ⟨rfl, hb⟩; refine ⟨_, rfl, ?_⟩; have n0_ := Aside0.mk (Kd.R_below (Qr_ HO_3.out) hb); have n1_ := Aside0.mk (below_step Qa0_ hb); clear HO_3; clear HB; have HO_3 := n0_; have HB := n1_; clear n0_ n1_; (try clear hb); (try clear hb2); (try clear hk); (try clear hi)))
     go_ret
     exact ⟨Qd0_, Qa0_⟩
def impl_ListText.f (k : Nat) (l0 : List Int) : Option (ByteArray × Bool) := if (l0.length : Int) > 64 then (some ((⟨#[]⟩ : ByteArray), false)) else ((impl_areIn.f k l0 (-1000000000000000) 1000000000000000).bind fun t188 => (if t188 = true then ((impl_listText.f k l0).bind fun t189 => (some (t189, true))) else (some ((⟨#[]⟩ : ByteArray), false))))
set_option maxHeartbeats 8000000 in
set_option maxRecDepth 100000 in
theorem impl_ListText.calls (k : Nat) (A0 : Option Addr) (c0 : Nat) (l0 : List Int) (r1 : ByteArray) (r2 : Bool) (w : World) (hr0 : Kd.C (Kd.int .i64) w A0 l0.length l0) (hc0 : l0.length ≤ c0) (hT : LibW w) (h : impl_ListText.f k l0 = some (r1, r2)) :
 Calls Tryz.prog 7 #[.slice A0 l0.length c0] w fun e w' => e = .returned (.tuple #[.string r1, .bool r2]) ∧ Below w.heap.size w w' := by
 have HT := Aside0.mk hT
 clear hT
 have HR0 := Aside0.mk hr0
 have HC0 := Aside0.mk hc0
 clear hr0 hc0
 have HB := Aside0.mk (Below.refl w.heap.size w)
 have H : (if (l0.length : Int) > 64 then (some ((⟨#[]⟩ : ByteArray), false)) else ((impl_areIn.f k l0 (-1000000000000000) 1000000000000000).bind fun t188 => (if t188 = true then ((impl_listText.f k l0).bind fun t189 => (some (t189, true))) else (some ((⟨#[]⟩ : ByteArray), false))))) = some (r1, r2) := h
 clear h
 by_cases c2 : (l0.length : Int) > 64
 ·rw [if_pos c2] at H
  have c2b0 := decide_eq_true c2
  have c2b1 : decide (64 < l0.length) = true := decide_eq_true (by omega)
  clear c2
  simp only [Option.some.injEq, Prod.mk.injEq] at H
  obtain ⟨rfl, rfl⟩ := H
  go_enter Tryz.func7, Tryz.ntmps7
  go_wp2
  go_ret2
  exact ⟨Qd0_, Qa0_⟩
 ·rw [if_neg c2] at H
  have c2b0 := decide_eq_false c2
  have c2b1 : decide (64 < l0.length) = false := decide_eq_false (by omega)
  clear c2
  replace H := Option.bind_eq_some_iff.mp H
  obtain ⟨t188, A30, H⟩ := H
  try dsimp only at H
  have A3 := Aside0.mk A30
  clear A30
  by_cases c4 : t188 = true
  ·subst c4
   rw [if_pos rfl] at H
   have H1 := H
   clear H
   have H := H1
   clear H1
   replace H := Option.bind_eq_some_iff.mp H
   obtain ⟨t189, A50, H⟩ := H
   try dsimp only at H
   have A5 := Aside0.mk A50
   clear A50
   simp only [Option.some.injEq, Prod.mk.injEq] at H
   obtain ⟨rfl, rfl⟩ := H
   go_enter Tryz.func7, Tryz.ntmps7
   go_wp2_with (first | (go_at_call 26; (with_reducible refine (impl_areIn.calls k _ _ l0 (-1000000000000000) 1000000000000000 true _ ?side1 ?side2 A3.out).mono ?_); (case side1 => exact Qc_ HR0.out); (case side2 => exact HC0.out); rintro e w' ⟨rfl, ⟨nd, rfl⟩⟩) | ((with_reducible refine gate_callee (f := 27) rfl ?_); refine goesL_ (some 13) rfl rfl Tryz.func27 Qh0_ rfl #[.slice A0 l0.length c0] rfl Qb0_ ?_; (with_reducible refine (impl_listText.calls k _ _ l0 t189 _ ?side1 ?side2 ?tb A5.out).mono ?_); (case tb => exact Qw0_); (case side1 => exact Qc_ HR0.out); (case side2 => exact HC0.out); rintro e w6 ⟨rfl, hb⟩; refine ⟨_, rfl, ?_⟩; have n0_ := Aside0.mk (below_step Qa0_ hb); clear HB; have HB := n0_; clear n0_; (try clear hb); (try clear hb2); (try clear hk); (try clear hi)))
   go_ret2
   exact ⟨Qd0_, Qa0_⟩
  ·replace c4 := Bool.eq_false_iff.mpr c4
   subst c4
   rw [if_neg (show ¬ (false = true) by decide)] at H
   have H1 := H
   clear H
   have H := H1
   clear H1
   simp only [Option.some.injEq, Prod.mk.injEq] at H
   obtain ⟨rfl, rfl⟩ := H
   go_enter Tryz.func7, Tryz.ntmps7
   go_wp2_with (first | (go_at_call 26; (with_reducible refine (impl_areIn.calls k _ _ l0 (-1000000000000000) 1000000000000000 false _ ?side1 ?side2 A3.out).mono ?_); (case side1 => exact Qc_ HR0.out); (case side2 => exact HC0.out); rintro e w' ⟨rfl, ⟨nd, rfl⟩⟩))
   go_ret2
   exact ⟨Qd0_, Qa0_⟩
def strings_Trim.f (a0 : ByteArray) (a1 : ByteArray) : Option (ByteArray) := if a0.size ≤ 9223372036854775807 ∧ a1.size < 4294967281 ∧ a1.data.toList.all (fun b => decide (b.toNat < 128)) = true then some ⟨(Lib.trimS a0.data.toList a1.data.toList).toArray⟩ else none
theorem strings_Trim.calls (a0 : ByteArray) (a1 : ByteArray) (r : ByteArray) (w : World) (h : strings_Trim.f a0 a1 = some r) :
 Calls Tryz.prog 83 #[.string a0, .string a1] w fun e w' => e = .returned (.string r) ∧ Below w.heap.size w w' := by
 unfold strings_Trim.f at h
 by_cases hc : a0.size ≤ 9223372036854775807 ∧ a1.size < 4294967281 ∧ a1.data.toList.all (fun b => decide (b.toNat < 128)) = true
 ·rw [if_pos hc] at h
  obtain rfl := Option.some.inj h
  exact Tryz.strings_Trim a0 a1 w hc.1 hc.2.1 (fun _ b hb => of_decide_eq_true (List.all_eq_true.1 hc.2.2 b (List.mem_of_getElem? hb)))
 ·rw [if_neg hc] at h
  cases h
def impl_areBits.f (a0 : ByteArray) : Option (Bool) := (strings_Trim.f a0 (⟨#[48, 49]⟩ : ByteArray)).bind fun t191 => (some (t191.toList == ([] : List UInt8)))
set_option maxHeartbeats 8000000 in
set_option maxRecDepth 100000 in
theorem impl_areBits.calls (a0 : ByteArray) (r : Bool) (w : World) (h : impl_areBits.f a0 = some r) :
 Calls Tryz.prog 62 #[.string a0] w fun e w' => e = .returned (.bool r) ∧ Below w.heap.size w w' := by
 have HB := Aside0.mk (Below.refl w.heap.size w)
 have H : ((strings_Trim.f a0 (⟨#[48, 49]⟩ : ByteArray)).bind fun t191 => (some (t191.toList == ([] : List UInt8)))) = some r := h
 clear h
 replace H := Option.bind_eq_some_iff.mp H
 obtain ⟨t191, A20, H⟩ := H
 try dsimp only at H
 have A2 := Aside0.mk A20
 clear A20
 obtain rfl := Option.some.inj H
 go_enter Tryz.func62, Tryz.ntmps62
 go_wp2_with (first | ((with_reducible refine gate_callee (f := 83) rfl ?_); refine goesL_ (some 4) rfl rfl Tryz.func83 Qh0_ rfl #[.string a0, .string (⟨#[48, 49]⟩ : ByteArray)] rfl Qb0_ ?_; (with_reducible refine (strings_Trim.calls a0 (⟨#[48, 49]⟩ : ByteArray) t191 _ A2.out).mono ?_); rintro e w3 ⟨rfl, hb⟩; refine ⟨_, rfl, ?_⟩; have n0_ := Aside0.mk (below_step Qa0_ hb); clear HB; have HB := n0_; clear n0_; (try clear hb); (try clear hb2); (try clear hk); (try clear hi)))
 go_ret
 exact ⟨Qd0_, Qa0_⟩
def setAt (w : World) (m : Nat) (ks : List ByteArray) : Prop := ∃ n, n ≤ ks.length ∧ w.ownsMap Tryz.prog 9 (plainElem (H := Unit) Tryz.prog 4) m n (Go.Maps.setOf (.lit (.bool true)) (ks.map fun x => .string x.data.toList))
theorem set_made (w : World) : setAt (w.alloc (.map #[] 0)) w.heap.size [] := ⟨0, Nat.le_refl _, World.ownsMap_made _ _ _ _⟩
theorem set_lt {w : World} {m : Nat} {ks : List ByteArray} (h : setAt w m ks) : m < w.heap.size := by
 obtain ⟨n, h1, h2⟩ := h
 exact h2.lt
theorem set_below {w w1 : World} {m : Nat} {ks : List ByteArray} (h : setAt w m ks) (hm : w1.heap[m]? = w.heap[m]?) : setAt w1 m ks := by
 obtain ⟨n, h1, es, clock, hb, F, hs, hD⟩ := h
 exact ⟨n, h1, es, clock, hm.trans hb, F, hs, hD⟩
theorem set_put {w : World} {m : Nat} {ks : List ByteArray} (h : setAt w m ks) (hk : ks.length < 1000000) (x : ByteArray) (hx : x.size ≤ maxLen) :
 ∃ w1, (Instr.mapUpdate 108 (.map (some m)) (.string x) (.bool true)).run Tryz.prog w = .ok () w1 ∧ setAt w1 m (ks ++ [x]) ∧ w.grownBy w1 (some m) := by
 obtain ⟨n, h1, h2⟩ := h
 obtain ⟨w1, e1, e2, e3⟩ := h2.update (Go.Maps.string_keyed Tryz.underlying9) Tryz.underlying108 (by unfold maxLen; omega) (key := .string x) (val := .bool true) (kl := .string x.data.toList) (d := .lit (.bool true)) (ps := []) (Go.WideMaps.keyOf_string_mk Tryz.underlying9 hx) (plainElem_bool Tryz.underlying4 true)
 refine ⟨w1, e1, ⟨n + 1, by rw [List.length_append, List.length_singleton]; omega, ?_⟩, e3⟩
 rw [List.map_append, List.map_singleton, Go.Maps.setOf_snoc]
 exact e2
def hasT (ks : List ByteArray) (x : ByteArray) : Bool := ks.any fun y => y.data.toList == x.data.toList
theorem set_fold (x : ByteArray) (z : DataW Unit) : ∀ (ks : List ByteArray) (D : DataW Unit), Go.Maps.IsMap D → (ks.foldl (fun m y => m.put (.string y.data.toList) (.lit (.bool true))) D).atKey (.string x.data.toList) z = if hasT ks x = true then .lit (.bool true) else D.atKey (.string x.data.toList) z
 | [], D, _ => rfl
 | y :: r, D, hD => by
  rw [List.foldl_cons, set_fold x z r _ (hD.put _ _)]
  unfold hasT
  rw [List.any_cons]
  by_cases h : y.data.toList = x.data.toList
  ·rw [h, Go.Maps.atKey_put_same hD (by first | trivial | exact ⟨_, rfl⟩ | simp [Go.WideAt.IsKeyLit]), beq_self_eq_true, Bool.true_or]
   split <;> rfl
  ·rw [Go.Maps.atKey_put_other (fun e => h (by injection e with e; exact e.symm)), beq_eq_false_iff_ne.2 h, Bool.false_or]
theorem set_at (ks : List ByteArray) (x : ByteArray) : (Go.Maps.setOf (H := Unit) (.lit (.bool true)) (ks.map fun x => .string x.data.toList)).atKey (.string x.data.toList) (.lit (.bool false)) = .lit (.bool (hasT ks x)) := by
 unfold Go.Maps.setOf
 rw [List.foldl_map, set_fold x _ ks _ Go.Maps.isMap_empty]
 cases hasT ks x <;> rfl
theorem plain_bool_inv {P : Program} {e : TypeId} (he : P.underlying e = some .bool) {v : Value} {b : Bool} {ps : List MemPlace} (h : plainElem (H := Unit) P e v = some (.lit (.bool b), ps)) : v = .bool b := by
 unfold plainElem at h
 rw [he] at h
 cases v <;> simp at h
 rw [h.1]
theorem set_get {w : World} {m : Nat} {ks : List ByteArray} (h : setAt w m ks) (x : ByteArray) (hx : x.size ≤ maxLen) : (Instr.lookup 108 (.map (some m)) (.string x) false).run Tryz.prog w = .ok (.bool (hasT ks x)) w := by
 obtain ⟨n, h1, h2⟩ := h
 obtain ⟨v, ps, e1, e2⟩ := h2.lookup (Go.Maps.string_keyed Tryz.underlying9) Tryz.underlying108 (z := .bool false) (Tryz.zeroValue4 _) (plainElem_bool Tryz.underlying4 false) (key := .string x) (kl := .string x.data.toList) (Go.WideMaps.keyOf_string_mk Tryz.underlying9 hx)
 rw [set_at] at e2
 have e3 := plain_bool_inv Tryz.underlying4 e2
 subst e3
 exact e1
def impl_BlockCode_areWords.l0 : Nat → Int → Int → List ByteArray → List ByteArray → Int → Option Bool
 | 0, _, _, _, _, _ => none
 | k + 1, wd, ot, xs, ks, i => if i < (xs.length : Int) then (if 0 ≤ i then ((impl_disparity.f (rdOf ByteArray.empty xs i)).bind fun d => (if ((rdOf ByteArray.empty xs i).size : Int) = wd then (if wd ≤ 1000 ∧ ks.length < 1000 then ((impl_areBits.f (rdOf ByteArray.empty xs i)).bind fun t => (if t = true then (if d ≠ 0 ∧ d ≠ ot then (some false) else (if hasT ks (rdOf ByteArray.empty xs i) = true then (some false) else (impl_BlockCode_areWords.l0 k wd ot xs (ks ++ [(rdOf ByteArray.empty xs i)]) (wrap64 (i + 1))))) else (some false))) else (none)) else (some false))) else (none)) else (some true)
theorem impl_BlockCode_areWords.mono_l : ∀ k, (∀ y0 y1 y2 y3 y4, LeO (impl_BlockCode_areWords.l0 k y0 y1 y2 y3 y4) (impl_BlockCode_areWords.l0 (k + 1) y0 y1 y2 y3 y4))
 | 0 => fun _ _ _ _ _ r h => by simp [impl_BlockCode_areWords.l0] at h
 | k + 1 => by
  have ih0 := impl_BlockCode_areWords.mono_l k
  ·intro y0 y1 y2 y3 y4
   unfold impl_BlockCode_areWords.l0
   repeat' first
   | (with_reducible exact ih0 _ _ _ _ _)
   | (with_reducible exact LeO.refl _)
   | (with_reducible exact LeO.none _)
   | (with_reducible refine LeO.ite ?_ ?_)
   | (with_reducible refine LeO.bind ?_ (fun _ => ?_))
def impl_BlockCode_areWords.f (k : Nat) (a0_0 a0_1 : Int) (l0_2 l0_3 l1 : List ByteArray) (a2 : Int) : Option Bool := if 0 ≤ a0_0 ∧ a0_0 ≤ 60 then (if (l1.length : Int) = shl .i64 1 a0_0 then (impl_BlockCode_areWords.l0 k a0_1 a2 l1 [] 0) else (some false)) else none
theorem impl_BlockCode_areWords.mono : ∀ a0 a1 a2 a3 a4 a5 k, LeO (impl_BlockCode_areWords.f k a0 a1 a2 a3 a4 a5) (impl_BlockCode_areWords.f (k + 1) a0 a1 a2 a3 a4 a5) := by
 intro a0 a1 a2 a3 a4 a5 k
 unfold impl_BlockCode_areWords.f
 exact LeO.ite (LeO.ite (impl_BlockCode_areWords.mono_l k _ _ _ _ _) (LeO.refl _)) (LeO.refl _)
def AwI (w w' : World) (m gb : Nat) (cs : Array Value) (ks : List ByteArray) : Prop := setAt w' m ks ∧ w'.heap[gb]? = some (.cells cs 26 (0, 0)) ∧ Below w.heap.size w w' ∧ w.heap.size ≤ m ∧ gb ≠ m
theorem AwI.start {w w3 : World} {gb : Nat} {cs : Array Value} (hB : Below w.heap.size w w3) (hb : w3.heap[gb]? = some (.cells cs 26 (0, 0))) : AwI w (w3.alloc (.map #[] 0)) w3.heap.size gb cs [] :=
 ⟨set_made w3, ((below_alloc (Below.refl w3.heap.size w3) _).block gb (blk_lt hb)).trans hb, hB.alloc hB.size _, hB.size, Nat.ne_of_lt (blk_lt hb)⟩
theorem aw_drew {w w1 : World} {n : Nat} (h : Below (w.drewN n).heap.size (w.drewN n) w1) : Below w.heap.size w w1 := ⟨h.os, h.tape, h.output, h.size, h.block⟩
theorem AwI.below {w w1 w2 : World} {m gb : Nat} {cs : Array Value} {ks : List ByteArray} (h : AwI w w1 m gb cs ks) (hB : Below w1.heap.size w1 w2) : AwI w w2 m gb cs ks :=
 ⟨set_below h.1 (hB.block m (set_lt h.1)), (hB.block gb (blk_lt h.2.1)).trans h.2.1, below_step h.2.2.1 hB, h.2.2.2⟩
theorem AwI.put {w w1 w2 : World} {m gb : Nat} {cs : Array Value} {ks ks2 : List ByteArray} (h : AwI w w1 m gb cs ks) (hs : setAt w2 m ks2) (hg : w1.grownBy w2 (some m)) : AwI w w2 m gb cs ks2 :=
 ⟨hs, (hg.block gb (blk_lt h.2.1) (fun e => h.2.2.2.2 (by injection e))).trans h.2.1, h.2.2.1.grown hg h.2.2.1.size (fun k e => by cases e; exact h.2.2.2.1), h.2.2.2⟩
set_option maxHeartbeats 8000000 in
set_option maxRecDepth 100000 in
theorem impl_BlockCode_areWords.calls (k : Nat) (a0_0 : Int) (a0_1 : Int) (A0_2 : Option Addr) (c0_2 : Nat) (l0_2 : List ByteArray) (A0_3 : Option Addr) (c0_3 : Nat) (l0_3 : List ByteArray) (A1 : Option Addr) (c1 : Nat) (l1 : List ByteArray) (a2 : Int) (r : Bool) (w : World) (hr0_2 : Kd.C Kd.string w A0_2 l0_2.length l0_2) (hc0_2 : l0_2.length ≤ c0_2) (hr0_3 : Kd.C Kd.string w A0_3 l0_3.length l0_3) (hc0_3 : l0_3.length ≤ c0_3) (hr1 : Kd.C Kd.string w A1 l1.length l1) (hc1 : l1.length ≤ c1) (h : impl_BlockCode_areWords.f k a0_0 a0_1 l0_2 l0_3 l1 a2 = some r) :
 Calls Tryz.prog 58 #[.agg #[.int .i64 a0_0, .int .i64 a0_1, .slice A0_2 l0_2.length c0_2, .slice A0_3 l0_3.length c0_3], .slice A1 l1.length c1, .int .i64 a2] w fun e w' => e = .returned (.bool r) ∧ Below w.heap.size w w' := by
 have hu66 := Tryz.underlying26
 have HR1 := Aside0.mk hr1
 have HB := Aside0.mk (Below.refl w.heap.size w)
 clear hr0_2 hc0_2 hr0_3 hc0_3 hr1 hc1
 unfold impl_BlockCode_areWords.f at h
 by_cases c0 : 0 ≤ a0_0 ∧ a0_0 ≤ 60
 rotate_left
 ·rw [if_neg c0] at h; cases h
 rw [if_pos c0] at h
 have c0b0 := eq_true c0.1
 have c0b1 : decide (0 ≤ a0_0) = true := decide_eq_true c0.1
 have c064 : a0_0 ≤ 64 := by omega
 have c064t := eq_true c064
 clear c0
 obtain ⟨ji, hji⟩ : ∃ j_ : Int, (shl .i64 1 a0_0) = j_ := ⟨_, rfl⟩
 rw [hji] at h
 have hji_ : (IntKind.i64.wrap (1 * 2 ^ min a0_0.toNat 64)) = ji := hji
 have hjiz : (IntKind.i64.wrap (1 * 2 ^ a0_0.toNat)) = ji := shl_small hji c064
 have hjiu : (IntKind.i64.wrap (2 ^ min a0_0.toNat 64)) = ji := by have h_ := hji_; rw [Int.one_mul] at h_; exact h_
 have hjiv : (IntKind.i64.wrap (2 ^ a0_0.toNat)) = ji := by have h_ := hjiz; rw [Int.one_mul] at h_; exact h_
 have hjiy : (wrap64 (1 * 2 ^ min a0_0.toNat 64)) = ji := (i64_w _).symm.trans hji_
 have hjix : (wrap64 (1 * 2 ^ a0_0.toNat)) = ji := (i64_w _).symm.trans hjiz
 clear c064 hji
 by_cases c1 : (l1.length : Int) = ji
 rotate_left
 ·rw [if_neg c1] at h
  obtain rfl := Option.some.inj h
  have c1b0 : ((l1.length : Int) != ji) = true := bne_iff_ne.2 c1
  have c1b1 : ((l1.length : Int) == ji) = false := beq_eq_false_iff_ne.2 c1
  clear c1
  go_enter Tryz.func58, Tryz.ntmps58
  go_wp2_with (first | ((with_reducible refine gate_dst (N := 3) rfl ?_); (try (refine gate_guard (by rfl) ?_; dsimp only)); refine box_event ?hg (N := 3) ?hd (cs := #[.int .i64 a0_0, .int .i64 a0_1, .slice A0_2 l0_2.length c0_2, .slice A0_3 l0_3.length c0_3]) (t := 26) ?hr ?_; (case hd => rfl); (case hg => rfl); (case hr => exact Qg0_); intro gb hgb w3 hbox hb; have n0_ := Aside0.mk (below_step Qa0_ hb); have n1_ := Aside0.mk (hbox); clear HB; have HB := n0_; have BK := n1_; clear n0_ n1_; clear hb hbox hgb; have hcz0 : w3.cell? ⟨gb, 0, none⟩ = some (.int .i64 a0_0) := (blk_cell BK.out 0).trans rfl; have hcz1 : w3.cell? ⟨gb, 1, none⟩ = some (.int .i64 a0_1) := (blk_cell BK.out 1).trans rfl))
  go_ret
  exact ⟨rfl, Qa0_⟩
 rw [if_pos c1] at h
 have c1b0 : ((l1.length : Int) != ji) = false := by rw [c1, bne_self_eq_false]
 have c1b1 : ((l1.length : Int) == ji) = true := beq_iff_eq.2 c1
 clear c1
 have H' := Aside0.mk h
 clear h
 go_enter Tryz.func58, Tryz.ntmps58
 have hmm := @run_makeMap Tryz.prog
 go_wp2_with (first | ((with_reducible refine gate_dst (N := 3) rfl ?_); (try (refine gate_guard (by rfl) ?_; dsimp only)); refine box_event ?hg (N := 3) ?hd (cs := #[.int .i64 a0_0, .int .i64 a0_1, .slice A0_2 l0_2.length c0_2, .slice A0_3 l0_3.length c0_3]) (t := 26) ?hr ?_; (case hd => rfl); (case hg => rfl); (case hr => exact Qg0_); intro gb hgb w3 hbox hb; have n0_ := Aside0.mk (below_step Qa0_ hb); have n1_ := Aside0.mk (hbox); clear HB; have HB := n0_; have BK := n1_; clear n0_ n1_; clear hb hbox hgb; have hcz0 : w3.cell? ⟨gb, 0, none⟩ = some (.int .i64 a0_0) := (blk_cell BK.out 0).trans rfl; have hcz1 : w3.cell? ⟨gb, 1, none⟩ = some (.int .i64 a0_1) := (blk_cell BK.out 1).trans rfl))
 have HI := Aside0.mk (AwI.start HB.out BK.out)
 obtain ⟨m, hm⟩ : ∃ x : Nat, x = w3.heap.size := ⟨_, rfl⟩
 rw [← hm] at HI
 rw [show (Value.map (some w3.heap.size)) = .map (some m) from by rw [hm]]
 clear hm HB BK hcz0 hcz1
 go_loopg [20] k (fun kq v20 w' => ∃ (i : Int) (ks : List ByteArray), v20 = .int .i64 i ∧ Aside0 (impl_BlockCode_areWords.l0 kq a0_1 a2 l1 ks i = some r) ∧ Aside0 (kq ≤ k) ∧ Aside0 (AwI w w' m gb #[.int .i64 a0_0, .int .i64 a0_1, .slice A0_2 l0_2.length c0_2, .slice A0_3 l0_3.length c0_3] ks))
 case atStart => exact ⟨0, [], Qc0_, H', ⟨Nat.le_refl _⟩, HI⟩
 case round =>
  clear H' HI
  try clear c0b0 c0b1 c064t hji_ hjiz hjiu hjiv hjiy hjix c1b0 c1b1
  obtain ⟨i, ks, rfl, HA, HK1, HI⟩ := hrel
  cases gk with
  | zero => exact absurd HA.out (by simp [impl_BlockCode_areWords.l0])
  | succ k1 =>
   have H := HA.out
   clear HA
   simp only [impl_BlockCode_areWords.l0] at H
   by_cases c2 : i < (l1.length : Int)
   rotate_left
   ·rw [if_neg c2] at H
    obtain rfl := Option.some.inj H
    have c2b0 := decide_eq_false c2
    clear c2
    go_wp2
    go_ret
    exact ⟨Qc0_, HI.out.2.2.1⟩
   rw [if_pos c2] at H
   have c2b0 := decide_eq_true c2
   by_cases c3 : 0 ≤ i
   rotate_left
   ·rw [if_neg c3] at H
    exact absurd H (by simp)
   rw [if_pos c3] at H
   obtain ⟨d, A1, H⟩ := Option.bind_eq_some_iff.mp H
   have A1_ := Aside0.mk A1
   clear A1
   obtain ⟨ad1, e1, hx1⟩ := Kd.at_string (Kd.C_below HR1.out HI.out.2.2.1) i c3 c2
   cases e1
   have p1 := eq_true c3
   have q1 := eq_true c2
   clear c2 c3
   obtain ⟨x, hx⟩ : ∃ x : ByteArray, x = rdOf ByteArray.empty l1 i := ⟨_, rfl⟩
   rw [← hx] at H A1_ hx1
   clear hx
   have hcz1 : wr.cell? ⟨gb, 1, none⟩ = some (.int .i64 a0_1) := (blk_cell HI.out.2.1 1).trans rfl
   by_cases c4 : (x.size : Int) = a0_1
   rotate_left
   ·rw [if_neg c4] at H
    obtain rfl := Option.some.inj H
    have c4b0 : ((x.size : Int) != a0_1) = true := bne_iff_ne.2 c4
    have c4b1 : ((x.size : Int) == a0_1) = false := beq_eq_false_iff_ne.2 c4
    clear c4
    go_wp2_with (first | (go_at_call 54; (with_reducible refine (impl_disparity.calls x d _ A1_.out).mono ?_); rintro e w' ⟨rfl, ⟨nd, rfl⟩⟩))
    go_ret
    exact ⟨Qc0_, pw_below_drewN HI.out.2.2.1 _⟩
   rw [if_pos c4] at H
   have c4b0 : ((x.size : Int) != a0_1) = false := by rw [c4, bne_self_eq_false]
   have c4b1 : ((x.size : Int) == a0_1) = true := beq_iff_eq.2 c4
   by_cases c5 : a0_1 ≤ 1000 ∧ ks.length < 1000
   rotate_left
   ·rw [if_neg c5] at H
    exact absurd H (by simp)
   rw [if_pos c5] at H
   have HK := Aside0.mk (show x.size ≤ maxLen ∧ ks.length < 1000000 by unfold maxLen; omega)
   clear c4 c5
   obtain ⟨t, A2, H⟩ := Option.bind_eq_some_iff.mp H
   have A2_ := Aside0.mk A2
   clear A2
   cases t with
   | false =>
    try dsimp only at H
    obtain rfl := Option.some.inj H
    go_wp2_with (first | (go_at_call 54; (with_reducible refine (impl_disparity.calls x d _ A1_.out).mono ?_); rintro e w' ⟨rfl, ⟨nd, rfl⟩⟩) | (go_at_call 62; (with_reducible refine (impl_areBits.calls x false _ A2_.out).mono ?_); rintro e w4 ⟨rfl, hb4⟩; have HI2 := Aside0.mk (AwI.below HI.out (aw_drew hb4)); clear hb4; have hlk := set_get HI2.out.1 x HK.out.1; (try rw [HIN.out] at hlk); (try (obtain ⟨w5, hup, hS, hg⟩ := set_put HI2.out.1 HK.out.2 x HK.out.1; have HI3 := Aside0.mk (AwI.put HI2.out hS hg); clear hS hg))))
    go_ret
    exact ⟨Qc0_, HI2.out.2.2.1⟩
   | true =>
    rw [if_pos rfl] at H
    by_cases c6 : d ≠ 0 ∧ d ≠ a2
    ·rw [if_pos c6] at H
     obtain rfl := Option.some.inj H
     have c6b0 : (d != 0) = true := bne_iff_ne.2 c6.1
     have c6b1 : (d != a2) = true := bne_iff_ne.2 c6.2
     clear c6
     go_wp2_with (first | (go_at_call 54; (with_reducible refine (impl_disparity.calls x d _ A1_.out).mono ?_); rintro e w' ⟨rfl, ⟨nd, rfl⟩⟩) | (go_at_call 62; (with_reducible refine (impl_areBits.calls x true _ A2_.out).mono ?_); rintro e w4 ⟨rfl, hb4⟩; have HI2 := Aside0.mk (AwI.below HI.out (aw_drew hb4)); clear hb4; have hlk := set_get HI2.out.1 x HK.out.1; (try rw [HIN.out] at hlk); (try (obtain ⟨w5, hup, hS, hg⟩ := set_put HI2.out.1 HK.out.2 x HK.out.1; have HI3 := Aside0.mk (AwI.put HI2.out hS hg); clear hS hg))))
     go_ret
     exact ⟨Qc0_, HI2.out.2.2.1⟩
    rw [if_neg c6] at H
    have c6s : ((d != 0) = false ∧ (d == 0) = true) ∨ ((d != 0) = true ∧ (d == 0) = false ∧ (d != a2) = false ∧ (d == a2) = true) := by
     by_cases e : d = 0
     ·exact .inl ⟨by rw [e]; rfl, by rw [e]; rfl⟩
     ·have e2 : d = a2 := Classical.byContradiction fun e2 => c6 ⟨e, e2⟩
      exact .inr ⟨bne_iff_ne.2 e, beq_eq_false_iff_ne.2 e, by rw [e2, bne_self_eq_false], beq_iff_eq.2 e2⟩
    clear c6
    rcases hin : hasT ks x with _ | _
    ·rw [hin, if_neg (by decide)] at H
     have H' := Aside0.mk H
     clear H
     have HIN := Aside0.mk hin
     clear hin
     rcases c6s with ⟨s1, s2⟩ | ⟨s1, s2, s3, s4⟩ <;> (
      go_wp2_with (first | (go_at_call 54; (with_reducible refine (impl_disparity.calls x d _ A1_.out).mono ?_); rintro e w' ⟨rfl, ⟨nd, rfl⟩⟩) | (go_at_call 62; (with_reducible refine (impl_areBits.calls x true _ A2_.out).mono ?_); rintro e w4 ⟨rfl, hb4⟩; have HI2 := Aside0.mk (AwI.below HI.out (aw_drew hb4)); clear hb4; have hlk := set_get HI2.out.1 x HK.out.1; (try rw [HIN.out] at hlk); (try (obtain ⟨w5, hup, hS, hg⟩ := set_put HI2.out.1 HK.out.2 x HK.out.1; have HI3 := Aside0.mk (AwI.put HI2.out hS hg); clear hS hg))))
      go_roundg k1
      case measure => have := HK1.out; omega
      case rel => exact ⟨(wrap64 (i + 1)), (ks ++ [x]), Qc0_, H', ⟨Qs0_⟩, HI3⟩)
    ·rw [hin, if_pos rfl] at H
     obtain rfl := Option.some.inj H
     have HIN := Aside0.mk hin
     clear hin
     rcases c6s with ⟨s1, s2⟩ | ⟨s1, s2, s3, s4⟩ <;> (
      go_wp2_with (first | (go_at_call 54; (with_reducible refine (impl_disparity.calls x d _ A1_.out).mono ?_); rintro e w' ⟨rfl, ⟨nd, rfl⟩⟩) | (go_at_call 62; (with_reducible refine (impl_areBits.calls x true _ A2_.out).mono ?_); rintro e w4 ⟨rfl, hb4⟩; have HI2 := Aside0.mk (AwI.below HI.out (aw_drew hb4)); clear hb4; have hlk := set_get HI2.out.1 x HK.out.1; (try rw [HIN.out] at hlk); (try (obtain ⟨w5, hup, hS, hg⟩ := set_put HI2.out.1 HK.out.2 x HK.out.1; have HI3 := Aside0.mk (AwI.put HI2.out hS hg); clear hS hg))))
      go_ret
      exact ⟨Qc0_, HI2.out.2.2.1⟩)
end Go.Proofs.YtdnjebnmianogaaGreatDoor.QFnTop
