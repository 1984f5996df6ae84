/- Made small by wip/pack.py: lemmas and contracts that the law's row leans on. -/
import Derived.Test.YtdaeioklcilipaaGreatDoorZFnConsole27
import Derived.Test.YtdaeioklcilipaaGreatDoorZFnConsole32
import Derived.Test.YtdaeioklcilipaaGreatDoorZFnConsole33
import Derived.Test.YtdaeioklcilipaaGreatDoorZFnConsole35
import Derived.Test.YtdaeioklcilipaaGreatDoorZFnConsole37
namespace Go.Proofs.YtdaeioklcilipaaGreatDoor.QFnConsole
open Go.RowKit Go.Proofs.YtdaeioklcilipaaGreatDoorW.PrintWords Go.Proofs.YtdaeioklcilipaaGreatDoorW.PrintLast Go.Proofs.YtdaeioklcilipaaGreatDoorW.PrintMore
attribute [local go_sem] max2_int min2_int max_two min_two max_three min_three max_four min_four
set_option linter.unusedVariables false
set_option linter.unusedSimpArgs false
def impl_decoded.f (k : Nat) (a0_0 : ByteArray) (a0_1 : Int) (a0_2 : ByteArray) (l0_3 : List Int) (l0_4 : List Int) : Option (ByteArray × Bool) := if 0 < (l0_3.length : Int) then (if 1 < (l0_3.length : Int) then ((impl_MakeBlockCode.f k (rd l0_3 0) (rd l0_3 1)).bind fun bt375 => (if 2 < (l0_3.length : Int) then ((impl_DecodeBlocks.f k bt375.1 bt375.2.1 bt375.2.2.1 bt375.2.2.2.1 (rd l0_3 2) a0_2).bind fun bt386 => ((impl_ListText.f k bt386.1).bind fun bt394 => ((impl_ListText.f k bt386.2.1).bind fun bt396 => (if bt394.1.size + 1 ≤ 9223372036854775807 then (if (bt394.1 ++ (⟨#[32]⟩ : ByteArray)).size + bt396.1.size ≤ 9223372036854775807 then (if bt375.2.2.2.2 = true then (if bt386.2.2.2 = true then (if bt394.2 = true then (some ((bt394.1 ++ (⟨#[32]⟩ : ByteArray)) ++ bt396.1, bt396.2)) else (some ((bt394.1 ++ (⟨#[32]⟩ : ByteArray)) ++ bt396.1, false))) else (some ((bt394.1 ++ (⟨#[32]⟩ : ByteArray)) ++ bt396.1, false))) else (some ((bt394.1 ++ (⟨#[32]⟩ : ByteArray)) ++ bt396.1, false))) else (none)) else (none))))) else (none))) else (none)) else (none)
set_option maxHeartbeats 8000000 in
set_option maxRecDepth 100000 in
theorem impl_decoded.calls (k : Nat) (a0_0 : ByteArray) (a0_1 : Int) (a0_2 : ByteArray) (A0_3 : Option Addr) (c0_3 : Nat) (l0_3 : List Int) (A0_4 : Option Addr) (c0_4 : Nat) (l0_4 : List Int) (r1 : ByteArray) (r2 : Bool) (w : World) (hr0_3 : Kd.C (Kd.int .i64) w A0_3 l0_3.length l0_3) (hc0_3 : l0_3.length ≤ c0_3) (hr0_4 : Kd.C (Kd.int .i64) w A0_4 l0_4.length l0_4) (hc0_4 : l0_4.length ≤ c0_4) (hT : LibW w) (h : impl_decoded.f k a0_0 a0_1 a0_2 l0_3 l0_4 = some (r1, r2)) :
 Calls Tryz.prog 47 #[.agg #[.string a0_0, .int .i64 a0_1, .string a0_2, .slice A0_3 l0_3.length c0_3, .slice A0_4 l0_4.length c0_4]] w fun e w' => e = .returned (.tuple #[.string r1, .bool r2]) ∧ Below w.heap.size w w' := by
 have hu67 := Tryz.underlying67
 have hu98 := Tryz.underlying98
 have HT := Aside0.mk hT
 have HB := Aside0.mk (Below.refl w.heap.size w)
 unfold impl_decoded.f at h
 by_cases e1 : 0 < (l0_3.length : Int)
 rotate_left
 ·rw [if_neg e1] at h; cases h
 rw [if_pos e1] at h
 by_cases e2 : 1 < (l0_3.length : Int)
 rotate_left
 ·rw [if_neg e2] at h; cases h
 rw [if_pos e2] at h
 obtain ⟨⟨m0, m1, l2, l3, ok1⟩, B1, h⟩ := Option.bind_eq_some_iff.mp h
 by_cases e3 : 2 < (l0_3.length : Int)
 rotate_left
 ·rw [if_neg e3] at h; cases h
 rw [if_pos e3] at h
 obtain ⟨⟨d0, d1, d2, ok2⟩, B2, h⟩ := Option.bind_eq_some_iff.mp h
 obtain ⟨⟨t1, ok3⟩, B3, h⟩ := Option.bind_eq_some_iff.mp h
 obtain ⟨⟨t2, ok4⟩, B4, h⟩ := Option.bind_eq_some_iff.mp h
 by_cases e4 : t1.size + 1 ≤ 9223372036854775807
 rotate_left
 ·rw [if_neg e4] at h; cases h
 rw [if_pos e4] at h
 by_cases e5 : (t1 ++ (⟨#[32]⟩ : ByteArray)).size + t2.size ≤ 9223372036854775807
 rotate_left
 ·rw [if_neg e5] at h; cases h
 rw [if_pos e5] at h
 have hr : r1 = (t1 ++ (⟨#[32]⟩ : ByteArray)) ++ t2 ∧ r2 = (ok1 && (ok2 && (ok3 && ok4))) := by
  cases ok1 <;> cases ok2 <;> cases ok3 <;> cases ok4 <;> simp at h <;> exact ⟨by first | exact h.1.symm | exact h.symm, by first | exact h.2.symm | rfl | (simp [h]; done)⟩
 obtain ⟨rfl, rfl⟩ := hr
 clear h
 have hs1 : (t1 ++ (⟨#[32]⟩ : ByteArray)).size = t1.size + 1 := by rw [ByteArray.size_append]; rfl
 have f1 : (9223372036854775807 < t1.size + 1) = False := eq_false (by omega)
 have f2 : (9223372036854775807 < t1.size + 1 + t2.size) = False := eq_false (by omega)
 obtain ⟨ad, ed, hx0⟩ := Kd.at_int hr0_3 0 (by decide) e1
 cases ed
 obtain ⟨ad1, ed1, hx1⟩ := Kd.at_int hr0_3 1 (by decide) e2
 rw [← Option.some.inj ed1] at hx1
 obtain ⟨ad2, ed2, hx2⟩ := Kd.at_int hr0_3 2 (by decide) e3
 rw [← Option.some.inj ed2] at hx2
 have HX0 := Aside0.mk (show w.cell? (ad.add 0) = some (.int .i64 (rd l0_3 0)) from hx0)
 have HX1 := Aside0.mk (show w.cell? (ad.add 1) = some (.int .i64 (rd l0_3 1)) from hx1)
 have HX2 := Aside0.mk (show w.cell? (ad.add 2) = some (.int .i64 (rd l0_3 2)) from hx2)
 have HXZ := Aside0.mk (show w.cell? ad = some (.int .i64 (rd l0_3 0)) by simpa [Addr.add] using hx0)
 have p0 := eq_true e1
 have p1 := eq_true e2
 have p2 := eq_true e3
 have q0 : (0 < l0_3.length) = True := eq_true (by omega)
 have q1 : (1 < l0_3.length) = True := eq_true (by omega)
 have q2 : (2 < l0_3.length) = True := eq_true (by omega)
 have B1_ := Aside0.mk B1
 have B2_ := Aside0.mk (show impl_DecodeBlocks.f k m0 m1 l2 l3 (rd l0_3 2) a0_2 = some (d0, d1, d2, ok2) from B2)
 have B3_ := Aside0.mk (show impl_ListText.f k d0 = some (t1, ok3) from B3)
 have B4_ := Aside0.mk (show impl_ListText.f k d1 = some (t2, ok4) from B4)
 clear ed1 ed2 hx0 hx1 hx2 e1 e2 e3 e4 e5 B1 B2 B3 B4 hT hr0_3 hc0_3 hr0_4 hc0_4
 go_enter Tryz.func47, Tryz.ntmps47
 go_wp2_with (first | ((with_reducible refine gate_dst (N := 1) rfl ?_); (try (refine gate_guard (by rfl) ?_; dsimp only)); refine box_event ?hg (N := 1) ?hd (cs := #[.string a0_0, .int .i64 a0_1, .string a0_2, .slice (some ad) l0_3.length c0_3, .slice A0_4 l0_4.length c0_4]) (t := 67) ?hr ?_; (case hd => rfl); (case hg => rfl); (case hr => exact Qj0_); intro ga hgga wg hbox hb; have n0_ := Aside0.mk (below_step Qa0_ hb); have HGA := Aside0.mk (show w.heap.size ≤ ga by omega); have n1_ := Aside0.mk (hbox); clear HB; have HB := n0_; have BKga := n1_; clear n0_ n1_; clear hb hbox hgga; have hczga0 : wg.cell? ⟨ga, 0, none⟩ = some (.string a0_0) := (blk_cell BKga.out 0).trans rfl; have hczga1 : wg.cell? ⟨ga, 1, none⟩ = some (.int .i64 a0_1) := (blk_cell BKga.out 1).trans rfl; have hczga2 : wg.cell? ⟨ga, 2, none⟩ = some (.string a0_2) := (blk_cell BKga.out 2).trans rfl; have hczga3 : wg.cell? ⟨ga, 3, none⟩ = some (.slice (some ad) l0_3.length c0_3) := (blk_cell BKga.out 3).trans rfl; have hczga4 : wg.cell? ⟨ga, 4, none⟩ = some (.slice A0_4 l0_4.length c0_4) := (blk_cell BKga.out 4).trans rfl))
 have hcA3 : wg.cell? ⟨ga, 3, none⟩ = some (.slice (some ad) l0_3.length c0_3) := (blk_cell BKga.out 3).trans rfl
 have hnz := pw_cell_below HB.out HXZ.out
 have hn1 := pw_cell_below HB.out HX1.out
 have hn1s := hn1
 simp [Addr.add] at hn1s
 have HSof := Aside0.mk (fun (w' : World) (hb : Below wg.heap.size wg w') => And.intro (pw_cell_below hb hcA3) (And.intro (pw_cell_below hb hnz) (pw_cell_below hb hn1s)))
 go_cut [4, 5] (fun v4 v5 wx => ∃ (g : Nat) (v2 v3 : Value), v4 = .pointer (some ⟨g, 0, none⟩) ∧ v5 = .bool ok1 ∧ Aside0 (dcI w wx ga #[.string a0_0, .int .i64 a0_1, .string a0_2, .slice (some ad) l0_3.length c0_3, .slice A0_4 l0_4.length c0_4] g m0 m1 v2 v3 l2 l3))
 case first =>
  go_region_held3 (fun w' => w'.cell? ⟨ga, 3, none⟩ = some (.slice (some ad) l0_3.length c0_3) ∧ w'.cell? ad = some (.int .i64 (rd l0_3 0)) ∧ w'.cell? ⟨ad.block, ad.off + 1, none⟩ = some (.int .i64 (rd l0_3 1))) (first | exact HSof.out _ Qg1_) (first | (go_at_call 60; (with_reducible refine (impl_MakeBlockCode.calls k (rd l0_3 0) (rd l0_3 1) m0 m1 l2 l3 ok1 _ B1_.out).mono ?_); rintro e w2 ⟨v2, v3, rfl, ho2, ho3, hb⟩; obtain ⟨A2, c2, e2_⟩ := Kd.R_slice ho2; subst e2_; obtain ⟨A3, c3, e3_⟩ := Kd.R_slice ho3; subst e3_; have HW2 := Aside0.mk (show Below w.heap.size w w2 from below_step (below_step HB.out Qn0_) hb); have HS2 := Aside0.mk (show wg.heap.size ≤ w2.heap.size from Nat.le_trans (show Below wg.heap.size wg _ from Qn0_).size hb.size); have HR2 := Aside0.mk (Kd.R_lower (Kd.R_mono ho2 (fun _ _ => trivial)) (below_step HB.out Qn0_).size); have HR3 := Aside0.mk (Kd.R_lower (Kd.R_mono ho3 (fun _ _ => trivial)) (below_step HB.out Qn0_).size); have HA2 := Aside0.mk (show w2.heap[ga]? = some (.cells #[.string a0_0, .int .i64 a0_1, .string a0_2, .slice (some ad) l0_3.length c0_3, .slice A0_4 l0_4.length c0_4] 67 (0, 0)) from (hb.block ga (Nat.lt_of_lt_of_le (dc_lt BKga.out) (show Below wg.heap.size wg _ from Qn0_).size)).trans (((show Below wg.heap.size wg _ from Qn0_).block ga (dc_lt BKga.out)).trans BKga.out)); (first | (have hbk_ : w2.heap[wg.heap.size]? = some (.cells #[.int .i64 0, .int .i64 0, .slice none 0 0, .slice none 0 0] 98 (0, 0)) := (hb.block wg.heap.size (dc_lt (heap_alloc_new _ _))).trans (heap_alloc_new _ _); have HBG := Aside0.mk hbk_; have hz0 := (blk_cell hbk_ 0).trans rfl; have hz1 := (blk_cell hbk_ 1).trans rfl; have hz2 := (blk_cell hbk_ 2).trans rfl; have hz3 := (blk_cell hbk_ 3).trans rfl; have hf0 := blk_frozen hbk_ 0; have hf1 := blk_frozen hbk_ 1; have hf2 := blk_frozen hbk_ 2; have hf3 := blk_frozen hbk_ 3; clear hbk_) | skip); have HWG := Aside0.mk (below_step (show Below wg.heap.size wg _ from Qn0_) hb); clear ho2 ho3 hb))
  all_goals (go_wp2; go_meet; exact ⟨_, _, _, rfl, rfl, ⟨by first | exact (dcI.made HW2.out HA2.out HBG.out HB.out.size HR2.out HR3.out rfl).below Qn0_ | exact (show dcI w (w2.alloc _) ga _ _ _ _ _ _ _ _ from ⟨below_step HW2.out (below_alloc (Below.refl w2.heap.size w2) _), ((below_alloc (Below.refl w2.heap.size w2) _).block ga (dc_lt HA2.out)).trans HA2.out, heap_alloc_new _ _, dc_row HR2.out (fun k_ c_ h_ => (below_alloc (Below.refl w2.heap.size w2) _).block k_ (dc_lt h_)), dc_row HR3.out (fun k_ c_ h_ => (below_alloc (Below.refl w2.heap.size w2) _).block k_ (dc_lt h_))⟩)⟩⟩)
 case rest =>
  obtain ⟨g, v2, v3, rfl, rfl, HD⟩ := hcut
  obtain ⟨A2, c2, e2, hl2, hC2⟩ := Kd.R_reads HD.out.2.2.2.1
  subst e2
  obtain ⟨A3, c3, e3, hl3, hC3⟩ := Kd.R_reads HD.out.2.2.2.2
  subst e3
  have HC2 := Aside0.mk hC2
  have HC3 := Aside0.mk hC3
  have HL2 := Aside0.mk hl2
  have HL3 := Aside0.mk hl3
  clear hC2 hC3 hl2 hl3
  have hd0 : wc.cell? ⟨g, 0, none⟩ = some (.int .i64 m0) := (blk_cell HD.out.2.2.1 0).trans rfl
  have hd1 : wc.cell? ⟨g, 1, none⟩ = some (.int .i64 m1) := (blk_cell HD.out.2.2.1 1).trans rfl
  have hd2 : wc.cell? ⟨g, 2, none⟩ = some (.slice A2 l2.length c2) := (blk_cell HD.out.2.2.1 2).trans rfl
  have hd3 : wc.cell? ⟨g, 3, none⟩ = some (.slice A3 l3.length c3) := (blk_cell HD.out.2.2.1 3).trans rfl
  have he2 : wc.cell? ⟨ga, 2, none⟩ = some (.string a0_2) := (blk_cell HD.out.2.1 2).trans rfl
  have he3 : wc.cell? ⟨ga, 3, none⟩ = some (.slice (some ad) l0_3.length c0_3) := (blk_cell HD.out.2.1 3).trans rfl
  have hn2 := pw_cell_below HD.out.1 HX2.out
  have hn2s := hn2
  simp [Addr.add] at hn2s
  have HSf2 := Aside0.mk (fun (w' : World) (hb : Below wc.heap.size wc w') => And.intro (pw_cell_below hb hd0) (And.intro (pw_cell_below hb hd1) (And.intro (pw_cell_below hb hd2) (And.intro (pw_cell_below hb hd3) (And.intro (pw_cell_below hb he3) (And.intro (pw_cell_below hb he2) (pw_cell_below hb hn2s)))))))
  go_wp2
  go_cut [6, 7, 8, 9] (fun v6 v7 v8 v9 wx => ∃ (u0 u1 : Value), v6 = u0 ∧ v7 = u1 ∧ v8 = .int .i64 d2 ∧ v9 = .bool ok2 ∧ Aside0 (Below w.heap.size w wx ∧ Kd.R (Kd.int .i64) 2 wx w.heap.size (fun _ => True) u0 d0 ∧ Kd.R (Kd.int .i64) 2 wx w.heap.size (fun _ => True) u1 d1))
  case first =>
   go_region_held3 (fun w' => w'.cell? ⟨g, 0, none⟩ = some (.int .i64 m0) ∧ w'.cell? ⟨g, 1, none⟩ = some (.int .i64 m1) ∧ w'.cell? ⟨g, 2, none⟩ = some (.slice A2 l2.length c2) ∧ w'.cell? ⟨g, 3, none⟩ = some (.slice A3 l3.length c3) ∧ w'.cell? ⟨ga, 3, none⟩ = some (.slice (some ad) l0_3.length c0_3) ∧ w'.cell? ⟨ga, 2, none⟩ = some (.string a0_2) ∧ w'.cell? ⟨ad.block, ad.off + 2, none⟩ = some (.int .i64 (rd l0_3 2))) (first | exact HSf2.out _ (by repeat (first | exact Below.refl _ _ | exact HWE.out | apply below_drew1 | apply pw_below_drewN))) (first | (go_at_call 61; (with_reducible refine (impl_DecodeBlocks.calls k m0 m1 A2 c2 l2 A3 c3 l3 (rd l0_3 2) a0_2 d0 d1 d2 ok2 _ ?s1 ?s2 ?s3 ?s4 B2_.out).mono ?_); (case s1 => exact Kd.C_below HC2.out Qm0_); (case s2 => exact HL2.out); (case s3 => exact Kd.C_below HC3.out Qm0_); (case s4 => exact HL3.out); rintro e w5 ⟨u0, u1, rfl, ho0, ho1, hb⟩; have HWE := Aside0.mk (below_step (show Below wc.heap.size wc _ from Qm0_) hb); have HE := Aside0.mk (And.intro (below_step (below_step HD.out.1 Qm0_) hb) (And.intro (Kd.R_lower (Kd.R_mono ho0 (fun _ _ => trivial)) (below_step HD.out.1 Qm0_).size) (Kd.R_lower (Kd.R_mono ho1 (fun _ _ => trivial)) (below_step HD.out.1 Qm0_).size))); clear ho0 ho1 hb))
   all_goals (go_wp2; go_meet; exact ⟨_, _, rfl, rfl, rfl, rfl, ⟨HE.out⟩⟩)
  case rest =>
   obtain ⟨u0, u1, rfl, rfl, rfl, rfl, HE⟩ := hcut
   obtain ⟨D0, x0, e0, hz0, hZ0⟩ := Kd.R_reads HE.out.2.1
   subst e0
   obtain ⟨D1, x1, e1, hz1, hZ1⟩ := Kd.R_reads HE.out.2.2
   subst e1
   have HZ0 := Aside0.mk hZ0
   have HZ1 := Aside0.mk hZ1
   have HY0 := Aside0.mk hz0
   have HY1 := Aside0.mk hz1
   clear hZ0 hZ1 hz0 hz1
   go_wp2_with (first | (go_at_call 62; (with_reducible refine (impl_ListText.calls k D0 x0 d0 t1 ok3 _ ?HB51 ?HB52 ?HB53 B3_.out).mono ?_); (case HB51 => exact HZ0.out); (case HB52 => exact HY0.out); (case HB53 => exact tabBelow HT.out HE.out.1); rintro e w5 ⟨rfl, hb⟩; have HB5 := Aside0.mk (below_step HE.out.1 hb); have HBL := Aside0.mk hb; clear hb) | (go_at_call 62; (with_reducible refine (impl_ListText.calls k D1 x1 d1 t2 ok4 _ ?HB61 ?HB62 ?HB63 B4_.out).mono ?_); (case HB61 => exact Kd.C_below HZ1.out HBL.out); (case HB62 => exact HY1.out); (case HB63 => exact tabBelow HT.out HB5.out); rintro e w6 ⟨rfl, hb⟩; have HB6 := Aside0.mk (below_step HB5.out hb); have HBL := Aside0.mk hb; clear hb))
   all_goals (go_ret2; exact ⟨Qf0_, HB6.out⟩)
def impl_IsCheck.f (a0 : Int) : Option (Bool) := (impl_within.f a0 2 131071).bind fun t372 => (some t372)
set_option maxHeartbeats 8000000 in
set_option maxRecDepth 100000 in
theorem impl_IsCheck.calls (a0 : Int) (r : Bool) (w : World) (h : impl_IsCheck.f a0 = some r) :
 Calls Tryz.prog 63 #[.int .i64 a0] w fun e w' => e = .returned (.bool r) ∧ Drawn0 w w' := by
 have H : ((impl_within.f a0 2 131071).bind fun t372 => (some t372)) = some r := h
 clear h
 replace H := Option.bind_eq_some_iff.mp H
 obtain ⟨t372, A20, H⟩ := H
 try dsimp only at H
 have A2 := Aside0.mk A20
 clear A20
 obtain rfl := Option.some.inj H
 go_enter Tryz.func63, Tryz.ntmps63
 go_wp2_with (first | ((with_reducible refine gate_callee (f := 45) rfl ?_); refine goesL_ (some 4) rfl rfl Tryz.func45 Ql0_ rfl #[.int .i64 a0, .int .i64 2, .int .i64 131071] rfl Qb0_ ?_; (with_reducible refine (impl_within.calls a0 2 131071 t372 _ A2.out).mono ?_); rintro e w' ⟨rfl, ⟨nd, rfl⟩⟩; refine ⟨_, rfl, ?_⟩))
 go_ret
 exact ⟨Qf0_, Qk0_⟩
def bits_Len64.f (a0 : Int) : Option (Int) := if 0 ≤ a0 ∧ a0 ≤ 18446744073709551615 then some (Lib.bitLen a0.toNat : Int) else none
theorem bits_Len64.calls (a0 : Int) (r : Int) (w : World) (h : bits_Len64.f a0 = some r) :
 Calls Tryz.prog 136 #[.int .u64 a0] w fun e w' => e = .returned (.int .i64 r) ∧ Drawn0 w w' := by
 unfold bits_Len64.f at h
 by_cases hc : 0 ≤ a0 ∧ a0 ≤ 18446744073709551615
 ·rw [if_pos hc] at h
  obtain rfl := Option.some.inj h
  exact (Tryz.bits_Len64 a0 w hc.1 hc.2).mono fun e w' ⟨h1, h2⟩ => ⟨h1, h2 ▸ Drawn0.refl _⟩
 ·rw [if_neg hc] at h
  cases h
def impl_degree.f (a0 : Int) : Option (Int) := (bits_Len64.f (IntKind.u64.wrap (a0))).bind fun t373 => (some (wrap64 (t373 - 1)))
set_option maxHeartbeats 8000000 in
set_option maxRecDepth 100000 in
theorem impl_degree.calls (a0 : Int) (r : Int) (w : World) (h : impl_degree.f a0 = some r) :
 Calls Tryz.prog 106 #[.int .i64 a0] w fun e w' => e = .returned (.int .i64 r) ∧ Drawn0 w w' := by
 have H : ((bits_Len64.f (IntKind.u64.wrap (a0))).bind fun t373 => (some (wrap64 (t373 - 1)))) = some r := h
 clear h
 replace H := Option.bind_eq_some_iff.mp H
 obtain ⟨t373, A20, H⟩ := H
 try dsimp only at H
 have A2 := Aside0.mk A20
 clear A20
 obtain rfl := Option.some.inj H
 go_enter Tryz.func106, Tryz.ntmps106
 go_wp2_with (first | ((with_reducible refine gate_callee (f := 136) rfl ?_); refine goesL_ (some 5) rfl rfl Tryz.func136 Ql0_ rfl #[.int .u64 (IntKind.u64.wrap (a0))] rfl Qb0_ ?_; (with_reducible refine (bits_Len64.calls (IntKind.u64.wrap (a0)) t373 _ A2.out).mono ?_); rintro e w' ⟨rfl, ⟨nd, rfl⟩⟩; refine ⟨_, rfl, ?_⟩))
 go_ret
 exact ⟨Qf0_, Qk0_⟩
def impl_times.f (a0 : Int) (a1 : Int) : Option (Int) := (impl_degree.f a0).bind fun t374 => (if 0 ≤ t374 then (if (shr .i64 (wrap64 (a1 * 2)) t374) = 1 then (some (Go.bits .xor .i64 (wrap64 (a1 * 2)) a0)) else (some (wrap64 (a1 * 2)))) else (none))
set_option maxHeartbeats 8000000 in
set_option maxRecDepth 100000 in
theorem impl_times.calls (a0 : Int) (a1 : Int) (r : Int) (w : World) (h : impl_times.f a0 a1 = some r) :
 Calls Tryz.prog 102 #[.int .i64 a0, .int .i64 a1] w fun e w' => e = .returned (.int .i64 r) ∧ Drawn0 w w' := by
 have H : ((impl_degree.f a0).bind fun t374 => (if 0 ≤ t374 then (if (shr .i64 (wrap64 (a1 * 2)) t374) = 1 then (some (Go.bits .xor .i64 (wrap64 (a1 * 2)) a0)) else (some (wrap64 (a1 * 2)))) else (none))) = some r := h
 clear h
 replace H := Option.bind_eq_some_iff.mp H
 obtain ⟨t374, A30, H⟩ := H
 try dsimp only at H
 have A3 := Aside0.mk A30
 clear A30
 by_cases c4 : 0 ≤ t374
 ·rw [if_pos c4] at H
  have c4b0 := eq_true c4
  have c4b1 := decide_eq_true c4
  clear c4
  obtain ⟨ji5, hji5⟩ : ∃ j_ : Int, (shr .i64 (wrap64 (a1 * 2)) t374) = j_ := ⟨_, rfl⟩
  replace H : (if (ji5) = 1 then (some (Go.bits .xor .i64 (wrap64 (a1 * 2)) a0)) else (some (wrap64 (a1 * 2)))) = some r := by first | (rw [hji5] at H; exact H) | (simp only [hji5] at H ⊢; exact H)
  (try rw [hji5] at A3)
  have hji5_ : ((wrap64 (a1 * 2)) / 2 ^ min t374.toNat 64) = ji5 := hji5
  have hji5z : t374 ≤ 64 → ((wrap64 (a1 * 2)) / 2 ^ t374.toNat) = ji5 := shr_small hji5
  by_cases c6 : (ji5) = 1
  ·rw [if_pos c6] at H
   have c6b0 := beq_iff_eq.mpr c6
   have c6b1 := bne_eq_false_iff_eq.mpr c6
   clear c6
   obtain rfl := Option.some.inj H
   go_enter Tryz.func102, Tryz.ntmps102
   go_wp2_with (first | ((with_reducible refine gate_callee (f := 106) rfl ?_); refine goesL_ (some 9) rfl rfl Tryz.func106 Ql0_ rfl #[.int .i64 a0] rfl Qb0_ ?_; (with_reducible refine (impl_degree.calls a0 t374 _ A3.out).mono ?_); rintro e w' ⟨rfl, ⟨nd, rfl⟩⟩; refine ⟨_, rfl, ?_⟩))
   go_ret
   exact ⟨by first | rfl | (simp; done) | (simp only [← hji5] <;> (first | rfl | simp)) | (simp [*]; done), Qk0_⟩
  ·rw [if_neg c6] at H
   have c6b0 := beq_eq_false_iff_ne.mpr c6
   have c6b1 := bne_iff_ne.mpr c6
   obtain rfl := Option.some.inj H
   go_enter Tryz.func102, Tryz.ntmps102
   go_wp2_with (first | ((with_reducible refine gate_callee (f := 106) rfl ?_); refine goesL_ (some 9) rfl rfl Tryz.func106 Ql0_ rfl #[.int .i64 a0] rfl Qb0_ ?_; (with_reducible refine (impl_degree.calls a0 t374 _ A3.out).mono ?_); rintro e w' ⟨rfl, ⟨nd, rfl⟩⟩; refine ⟨_, rfl, ?_⟩))
   go_ret
   exact ⟨by first | rfl | (simp; done) | (simp only [← hji5] <;> (first | rfl | simp)) | (simp [*]; done), Qk0_⟩
 ·rw [if_neg c4] at H
  exact absurd H (by simp)
def impl_remainder.l0 : Nat → Int → ByteArray → Int → Int → Int → Option (Int)
 | 0, _, _, _, _, _ => none
 | k + 1, x0, x1, x5, x8, x9 => if x9 < x8 then ((impl_times.f x0 x5).bind fun t375 => (if 0 ≤ x9 then (if x9 < (x1.size : Int) then (if (bt x1 x9) = 49 then (impl_remainder.l0 k x0 x1 (Go.bits .xor .i64 t375 1) x8 (wrap64 (x9 + 1))) else (impl_remainder.l0 k x0 x1 t375 x8 (wrap64 (x9 + 1)))) else (none)) else (none))) else (some x5)
def impl_remainder.f (k : Nat) (a0 : Int) (a1 : ByteArray) : Option (Int) := impl_remainder.l0 k a0 a1 0 (a1.size : Int) 0
set_option maxHeartbeats 8000000 in
set_option maxRecDepth 100000 in
theorem impl_remainder.calls (k : Nat) (a0 : Int) (a1 : ByteArray) (r : Int) (w : World) (h : impl_remainder.f k a0 a1 = some r) :
 Calls Tryz.prog 64 #[.int .i64 a0, .string a1] w fun e w' => e = .returned (.int .i64 r) ∧ Drawn0 w w' := by
 have H : (impl_remainder.l0 k a0 a1 0 (a1.size : Int) 0) = some r := h
 clear h
 have H' := Aside0.mk H
 clear H
 go_enter Tryz.func64, Tryz.ntmps64
 go_wp2
 go_loopg [5, 9] k (fun kq v5 v9 w' => ∃ (x5_1 : Int) (x9_1 : Int), v5 = .int .i64 x5_1 ∧ v9 = .int .i64 x9_1 ∧ Aside0 (impl_remainder.l0 kq a0 a1 x5_1 (a1.size : Int) x9_1 = some r) ∧ Aside0 (kq ≤ k) ∧ Drawn0 w w')
 case atStart => exact ⟨(0), (0), Qf0_, Qf0_, H', ⟨Nat.le_refl _⟩, Qk0_⟩
 case round =>
  clear H'
  try clear p2
  obtain ⟨x5_1, x9_1, rfl, rfl, HA, HK1, ⟨m1, rfl⟩⟩ := hrel
  cases gk with
  | zero => exact absurd HA.out (by simp [impl_remainder.l0])
  | succ k1 =>
   have H := HA.out
   clear HA
   simp only [impl_remainder.l0] at H
   by_cases c3 : x9_1 < (a1.size : Int)
   ·rw [if_pos c3] at H
    have c3b0 := decide_eq_true c3
    clear c3
    replace H := Option.bind_eq_some_iff.mp H
    obtain ⟨t375, A40, H⟩ := H
    try dsimp only at H
    have A4 := Aside0.mk A40
    clear A40
    by_cases c5 : 0 ≤ x9_1
    ·rw [if_pos c5] at H
     have c5b0 := decide_eq_true c5
     clear c5
     by_cases c6 : x9_1 < (a1.size : Int)
     ·rw [if_pos c6] at H
      have c6b0 := decide_eq_true c6
      clear c6
      by_cases c8 : (bt a1 x9_1) = 49
      ·rw [if_pos c8] at H
       have c8b0 := beq_iff_eq.mpr c8
       have c8b1 := bne_eq_false_iff_eq.mpr c8
       clear c8
       have H' := Aside0.mk H
       clear H
       go_wp2_with (first | ((with_reducible refine gate_callee (f := 102) rfl ?_); refine goesL_ (some 14) rfl rfl Tryz.func102 Ql0_ rfl #[.int .i64 a0, .int .i64 x5_1] rfl Qb0_ ?_; (with_reducible refine (impl_times.calls a0 x5_1 t375 _ A4.out).mono ?_); rintro e w' ⟨rfl, ⟨nd, rfl⟩⟩; refine ⟨_, rfl, ?_⟩; have p7 : 0 ≤ (x9_1 : Int) := of_decide_eq_true Qg0_; have q7 : x9_1 < (a1.size : Int) := of_decide_eq_true Qg0_; have hx7 := bt_at a1 x9_1; replace p7 := eq_true p7; replace q7 := eq_true q7))
       go_roundg k1
       case measure => have := HK1.out; omega
       case rel => exact ⟨(Go.bits .xor .i64 t375 1), (wrap64 (x9_1 + 1)), Qf0_, Qf0_, H', ⟨Qs0_⟩, Qk0_⟩
      ·rw [if_neg c8] at H
       have c8b0 := beq_eq_false_iff_ne.mpr c8
       have c8b1 := bne_iff_ne.mpr c8
       have H' := Aside0.mk H
       clear H
       go_wp2_with (first | ((with_reducible refine gate_callee (f := 102) rfl ?_); refine goesL_ (some 14) rfl rfl Tryz.func102 Ql0_ rfl #[.int .i64 a0, .int .i64 x5_1] rfl Qb0_ ?_; (with_reducible refine (impl_times.calls a0 x5_1 t375 _ A4.out).mono ?_); rintro e w' ⟨rfl, ⟨nd, rfl⟩⟩; refine ⟨_, rfl, ?_⟩; have p7 : 0 ≤ (x9_1 : Int) := of_decide_eq_true Qg0_; have q7 : x9_1 < (a1.size : Int) := of_decide_eq_true Qg0_; have hx7 := bt_at a1 x9_1; replace p7 := eq_true p7; replace q7 := eq_true q7))
       go_roundg k1
       case measure => have := HK1.out; omega
       case rel => exact ⟨(t375), (wrap64 (x9_1 + 1)), Qf0_, Qf0_, H', ⟨Qs0_⟩, Qk0_⟩
     ·rw [if_neg c6] at H
      exact absurd H (by simp)
    ·rw [if_neg c5] at H
     exact absurd H (by simp)
   ·rw [if_neg c3] at H
    have c3b0 := decide_eq_false c3
    clear c3
    obtain rfl := Option.some.inj H
    go_wp2
    go_ret
    exact ⟨Qf0_, Qk0_⟩
def impl_HasCheck.f (k : Nat) (a0 : Int) (a1 : ByteArray) : Option (Bool) := (impl_IsCheck.f a0).bind fun t376 => (if t376 = true then ((impl_IsBits.f a1).bind fun t377 => (if t377 = true then ((impl_remainder.f k a0 a1).bind fun t378 => (some (t378 == 0))) else (some false))) else (some false))
set_option maxHeartbeats 8000000 in
set_option maxRecDepth 100000 in
theorem impl_HasCheck.calls (k : Nat) (a0 : Int) (a1 : ByteArray) (r : Bool) (w : World) (h : impl_HasCheck.f k a0 a1 = some r) :
 Calls Tryz.prog 48 #[.int .i64 a0, .string a1] w fun e w' => e = .returned (.bool r) ∧ Below w.heap.size w w' := by
 have HB := Aside0.mk (Below.refl w.heap.size w)
 have H : ((impl_IsCheck.f a0).bind fun t376 => (if t376 = true then ((impl_IsBits.f a1).bind fun t377 => (if t377 = true then ((impl_remainder.f k a0 a1).bind fun t378 => (some (t378 == 0))) else (some false))) else (some false))) = some r := h
 clear h
 replace H := Option.bind_eq_some_iff.mp H
 obtain ⟨t376, A30, H⟩ := H
 try dsimp only at H
 have A3 := Aside0.mk A30
 clear A30
 by_cases c4 : t376 = true
 ·subst c4
  rw [if_pos rfl] at H
  have H1 := H
  clear H
  have H := H1
  clear H1
  replace H := Option.bind_eq_some_iff.mp H
  obtain ⟨t377, A50, H⟩ := H
  try dsimp only at H
  have A5 := Aside0.mk A50
  clear A50
  by_cases c6 : t377 = true
  ·subst c6
   rw [if_pos rfl] at H
   have H1 := H
   clear H
   have H := H1
   clear H1
   replace H := Option.bind_eq_some_iff.mp H
   obtain ⟨t378, A70, H⟩ := H
   try dsimp only at H
   have A7 := Aside0.mk A70
   clear A70
   obtain rfl := Option.some.inj H
   go_enter Tryz.func48, Tryz.ntmps48
   go_wp2_with (first | ((with_reducible refine gate_callee (f := 63) rfl ?_); refine goesL_ (some 6) rfl rfl Tryz.func63 Ql0_ rfl #[.int .i64 a0] rfl Qb0_ ?_; (with_reducible refine (impl_IsCheck.calls a0 true _ A3.out).mono ?_); rintro e w' ⟨rfl, ⟨nd, rfl⟩⟩; refine ⟨_, rfl, ?_⟩) | (go_at_call 17; (with_reducible refine (impl_IsBits.calls a1 true _ A5.out).mono ?_); rintro e w8 ⟨rfl, hb⟩; have n0_ := Aside0.mk (below_step Qa0_ hb); clear HB; have HB := n0_; clear n0_; (try clear hb); (try clear hb2); (try clear hk); (try clear hi)) | (go_at_call 64; (with_reducible refine (impl_remainder.calls k a0 a1 t378 _ A7.out).mono ?_); rintro e w' ⟨rfl, ⟨nd, rfl⟩⟩))
   go_ret
   exact ⟨Qh0_, Qa0_⟩
  ·replace c6 := Bool.eq_false_iff.mpr c6
   subst c6
   rw [if_neg (show ¬ (false = true) by decide)] at H
   have H1 := H
   clear H
   have H := H1
   clear H1
   obtain rfl := Option.some.inj H
   go_enter Tryz.func48, Tryz.ntmps48
   go_wp2_with (first | ((with_reducible refine gate_callee (f := 63) rfl ?_); refine goesL_ (some 6) rfl rfl Tryz.func63 Ql0_ rfl #[.int .i64 a0] rfl Qb0_ ?_; (with_reducible refine (impl_IsCheck.calls a0 true _ A3.out).mono ?_); rintro e w' ⟨rfl, ⟨nd, rfl⟩⟩; refine ⟨_, rfl, ?_⟩) | (go_at_call 17; (with_reducible refine (impl_IsBits.calls a1 false _ A5.out).mono ?_); rintro e w9 ⟨rfl, hb⟩; have n0_ := Aside0.mk (below_step Qa0_ hb); clear HB; have HB := n0_; clear n0_; (try clear hb); (try clear hb2); (try clear hk); (try clear hi)))
   go_ret
   exact ⟨Qh0_, Qa0_⟩
 ·replace c4 := Bool.eq_false_iff.mpr c4
  subst c4
  rw [if_neg (show ¬ (false = true) by decide)] at H
  have H1 := H
  clear H
  have H := H1
  clear H1
  obtain rfl := Option.some.inj H
  go_enter Tryz.func48, Tryz.ntmps48
  go_wp2_with (first | ((with_reducible refine gate_callee (f := 63) rfl ?_); refine goesL_ (some 6) rfl rfl Tryz.func63 Ql0_ rfl #[.int .i64 a0] rfl Qb0_ ?_; (with_reducible refine (impl_IsCheck.calls a0 false _ A3.out).mono ?_); rintro e w' ⟨rfl, ⟨nd, rfl⟩⟩; refine ⟨_, rfl, ?_⟩))
  go_ret
  exact ⟨Qh0_, Qa0_⟩
def impl_areSides.f (a0 : Int) (a1 : Int) : Option (Bool) := (impl_within.f a0 1 20).bind fun t379 => (if t379 = true then ((impl_within.f a1 1 20).bind fun t380 => (some t380)) else (some false))
set_option maxHeartbeats 8000000 in
set_option maxRecDepth 100000 in
theorem impl_areSides.calls (a0 : Int) (a1 : Int) (r : Bool) (w : World) (h : impl_areSides.f a0 a1 = some r) :
 Calls Tryz.prog 135 #[.int .i64 a0, .int .i64 a1] w fun e w' => e = .returned (.bool r) ∧ Drawn0 w w' := by
 have H : ((impl_within.f a0 1 20).bind fun t379 => (if t379 = true then ((impl_within.f a1 1 20).bind fun t380 => (some t380)) else (some false))) = some r := h
 clear h
 replace H := Option.bind_eq_some_iff.mp H
 obtain ⟨t379, A30, H⟩ := H
 try dsimp only at H
 have A3 := Aside0.mk A30
 clear A30
 by_cases c4 : t379 = true
 ·subst c4
  rw [if_pos rfl] at H
  have H1 := H
  clear H
  have H := H1
  clear H1
  replace H := Option.bind_eq_some_iff.mp H
  obtain ⟨t380, A50, H⟩ := H
  try dsimp only at H
  have A5 := Aside0.mk A50
  clear A50
  obtain rfl := Option.some.inj H
  go_enter Tryz.func135, Tryz.ntmps135
  go_wp2_with (first | ((with_reducible refine gate_callee (f := 45) rfl ?_); refine goesL_ (some 6) rfl rfl Tryz.func45 Ql0_ rfl #[.int .i64 a0, .int .i64 1, .int .i64 20] rfl Qb0_ ?_; (with_reducible refine (impl_within.calls a0 1 20 true _ A3.out).mono ?_); rintro e w' ⟨rfl, ⟨nd, rfl⟩⟩; refine ⟨_, rfl, ?_⟩) | (go_at_call 45; (with_reducible refine (impl_within.calls a1 1 20 t380 _ A5.out).mono ?_); rintro e w' ⟨rfl, ⟨nd, rfl⟩⟩))
  go_ret
  exact ⟨Qf0_, Qk0_⟩
 ·replace c4 := Bool.eq_false_iff.mpr c4
  subst c4
  rw [if_neg (show ¬ (false = true) by decide)] at H
  have H1 := H
  clear H
  have H := H1
  clear H1
  obtain rfl := Option.some.inj H
  go_enter Tryz.func135, Tryz.ntmps135
  go_wp2_with (first | ((with_reducible refine gate_callee (f := 45) rfl ?_); refine goesL_ (some 6) rfl rfl Tryz.func45 Ql0_ rfl #[.int .i64 a0, .int .i64 1, .int .i64 20] rfl Qb0_ ?_; (with_reducible refine (impl_within.calls a0 1 20 false _ A3.out).mono ?_); rintro e w' ⟨rfl, ⟨nd, rfl⟩⟩; refine ⟨_, rfl, ?_⟩))
  go_ret
  exact ⟨Qf0_, Qk0_⟩
def impl_isBlock.f (a0 : Int) (a1 : Int) (a2 : ByteArray) : Option (Bool) := (impl_areSides.f a0 a1).bind fun t381 => (if t381 = true then ((impl_IsBits.f a2).bind fun t382 => (if t382 = true then (some ((a2.size : Int) == (wrap64 (a0 * a1)))) else (some false))) else (some false))
set_option maxHeartbeats 8000000 in
set_option maxRecDepth 100000 in
theorem impl_isBlock.calls (a0 : Int) (a1 : Int) (a2 : ByteArray) (r : Bool) (w : World) (h : impl_isBlock.f a0 a1 a2 = some r) :
 Calls Tryz.prog 104 #[.int .i64 a0, .int .i64 a1, .string a2] w fun e w' => e = .returned (.bool r) ∧ Below w.heap.size w w' := by
 have HB := Aside0.mk (Below.refl w.heap.size w)
 have H : ((impl_areSides.f a0 a1).bind fun t381 => (if t381 = true then ((impl_IsBits.f a2).bind fun t382 => (if t382 = true then (some ((a2.size : Int) == (wrap64 (a0 * a1)))) else (some false))) else (some false))) = some r := h
 clear h
 replace H := Option.bind_eq_some_iff.mp H
 obtain ⟨t381, A40, H⟩ := H
 try dsimp only at H
 have A4 := Aside0.mk A40
 clear A40
 by_cases c5 : t381 = true
 ·subst c5
  rw [if_pos rfl] at H
  have H1 := H
  clear H
  have H := H1
  clear H1
  replace H := Option.bind_eq_some_iff.mp H
  obtain ⟨t382, A60, H⟩ := H
  try dsimp only at H
  have A6 := Aside0.mk A60
  clear A60
  by_cases c7 : t382 = true
  ·subst c7
   rw [if_pos rfl] at H
   have H1 := H
   clear H
   have H := H1
   clear H1
   obtain rfl := Option.some.inj H
   go_enter Tryz.func104, Tryz.ntmps104
   go_wp2_with (first | ((with_reducible refine gate_callee (f := 135) rfl ?_); refine goesL_ (some 9) rfl rfl Tryz.func135 Ql0_ rfl #[.int .i64 a0, .int .i64 a1] rfl Qb0_ ?_; (with_reducible refine (impl_areSides.calls a0 a1 true _ A4.out).mono ?_); rintro e w' ⟨rfl, ⟨nd, rfl⟩⟩; refine ⟨_, rfl, ?_⟩) | (go_at_call 17; (with_reducible refine (impl_IsBits.calls a2 true _ A6.out).mono ?_); rintro e w8 ⟨rfl, hb⟩; have n0_ := Aside0.mk (below_step Qa0_ hb); clear HB; have HB := n0_; clear n0_; (try clear hb); (try clear hb2); (try clear hk); (try clear hi)))
   go_ret
   exact ⟨Qh0_, Qa0_⟩
  ·replace c7 := Bool.eq_false_iff.mpr c7
   subst c7
   rw [if_neg (show ¬ (false = true) by decide)] at H
   have H1 := H
   clear H
   have H := H1
   clear H1
   obtain rfl := Option.some.inj H
   go_enter Tryz.func104, Tryz.ntmps104
   go_wp2_with (first | ((with_reducible refine gate_callee (f := 135) rfl ?_); refine goesL_ (some 9) rfl rfl Tryz.func135 Ql0_ rfl #[.int .i64 a0, .int .i64 a1] rfl Qb0_ ?_; (with_reducible refine (impl_areSides.calls a0 a1 true _ A4.out).mono ?_); rintro e w' ⟨rfl, ⟨nd, rfl⟩⟩; refine ⟨_, rfl, ?_⟩) | (go_at_call 17; (with_reducible refine (impl_IsBits.calls a2 false _ A6.out).mono ?_); rintro e w9 ⟨rfl, hb⟩; have n0_ := Aside0.mk (below_step Qa0_ hb); clear HB; have HB := n0_; clear n0_; (try clear hb); (try clear hb2); (try clear hk); (try clear hi)))
   go_ret
   exact ⟨Qh0_, Qa0_⟩
 ·replace c5 := Bool.eq_false_iff.mpr c5
  subst c5
  rw [if_neg (show ¬ (false = true) by decide)] at H
  have H1 := H
  clear H
  have H := H1
  clear H1
  obtain rfl := Option.some.inj H
  go_enter Tryz.func104, Tryz.ntmps104
  go_wp2_with (first | ((with_reducible refine gate_callee (f := 135) rfl ?_); refine goesL_ (some 9) rfl rfl Tryz.func135 Ql0_ rfl #[.int .i64 a0, .int .i64 a1] rfl Qb0_ ?_; (with_reducible refine (impl_areSides.calls a0 a1 false _ A4.out).mono ?_); rintro e w' ⟨rfl, ⟨nd, rfl⟩⟩; refine ⟨_, rfl, ?_⟩))
  go_ret
  exact ⟨Qh0_, Qa0_⟩
def impl_behindPlace.f (a0 : Int) (a1 : Int) (a2 : Int) : Option (Int) := if a1 = 0 then (none) else (some (wrap64 ((wrap64 ((Int.tmod a2 a1) * a0)) + (wrap64 (Int.tdiv a2 a1)))))
set_option maxHeartbeats 8000000 in
set_option maxRecDepth 100000 in
theorem impl_behindPlace.calls (a0 : Int) (a1 : Int) (a2 : Int) (r : Int) (w : World) (h : impl_behindPlace.f a0 a1 a2 = some r) :
 Calls Tryz.prog 105 #[.int .i64 a0, .int .i64 a1, .int .i64 a2] w fun e w' => e = .returned (.int .i64 r) ∧ Drawn0 w w' := by
 have H : (if a1 = 0 then (none) else (some (wrap64 ((wrap64 ((Int.tmod a2 a1) * a0)) + (wrap64 (Int.tdiv a2 a1)))))) = some r := h
 clear h
 by_cases c4 : a1 = 0
 ·rw [if_pos c4] at H
  exact absurd H (by simp)
 ·rw [if_neg c4] at H
  have c4b0 := beq_eq_false_iff_ne.mpr c4
  have c4b1 := bne_iff_ne.mpr c4
  obtain rfl := Option.some.inj H
  go_enter Tryz.func105, Tryz.ntmps105
  go_wp2
  repeat (go_quiet (fail); try go_wp2)
  go_ret
  exact ⟨Qf0_, Qk0_⟩
def impl_BlockInterleave.l0 : Nat → Int → Int → ByteArray → List Int → Int → Int → Option (ByteArray × Bool)
 | 0, _, _, _, _, _, _ => none
 | k + 1, x0, x1, x2, x8, x19, x20 => if x20 < x19 then ((impl_behindPlace.f x0 x1 x20).bind fun t387 => (if 0 ≤ x20 then (if x20 < (x2.size : Int) then (if 0 ≤ t387 then (if t387 < (x8.length : Int) then (impl_BlockInterleave.l0 k x0 x1 x2 (x8.set (t387 : Int).toNat (bt x2 x20)) x19 (wrap64 (x20 + 1))) else (none)) else (none)) else (none)) else (none))) else (some (strOfNums x8, true))
def impl_BlockInterleave.f (k : Nat) (a0 : Int) (a1 : Int) (a2 : ByteArray) : Option (ByteArray × Bool) := (impl_isBlock.f a0 a1 a2).bind fun t383 => (if t383 = true then (if 0 ≤ (a2.size : Int) then (if ((a2.size : Int) : Int).toNat ≤ 281474976710656 then (impl_BlockInterleave.l0 k a0 a1 a2 (List.replicate ((a2.size : Int) : Int).toNat 0) (a2.size : Int) 0) else (none)) else (none)) else (some ((⟨#[]⟩ : ByteArray), false)))
def impl_BlockInterleave.T7 : Bool × List (List Nat × List Nat) := (true, [([], []), ([], []), ([], []), ([], []), ([1, 2, 3], [1, 2, 3]), ([], []), ([], []), ([5, 6], [5, 6]), ([0, 4, 0, 1, 2, 3, 4, 5, 6, 7], [0, 4]), ([8, 7, 4, 0, 1, 2, 3, 4, 5, 6, 7], [7, 8])])
def impl_BlockInterleave.B7 : List Nat := [0, 0, 0, 0, 14, 0, 0, 96, 255, 511]
theorem impl_BlockInterleave.tab7 : rtab .any (opsOf Tryz.f67 7) = impl_BlockInterleave.T7 := by kernel_rfl
theorem impl_BlockInterleave.bits7 : waitsOk impl_BlockInterleave.T7.2 impl_BlockInterleave.B7 = true := by kernel_rfl
set_option maxHeartbeats 8000000 in
set_option maxRecDepth 100000 in
theorem impl_BlockInterleave.calls (k : Nat) (a0 : Int) (a1 : Int) (a2 : ByteArray) (r1 : ByteArray) (r2 : Bool) (w : World) (h : impl_BlockInterleave.f k a0 a1 a2 = some (r1, r2)) :
 Calls Tryz.prog 67 #[.int .i64 a0, .int .i64 a1, .string a2] w fun e w' => e = .returned (.tuple #[.string r1, .bool r2]) ∧ Below w.heap.size w w' := by
 have HB := Aside0.mk (Below.refl w.heap.size w)
 have H : ((impl_isBlock.f a0 a1 a2).bind fun t383 => (if t383 = true then (if 0 ≤ (a2.size : Int) then (if ((a2.size : Int) : Int).toNat ≤ 281474976710656 then (impl_BlockInterleave.l0 k a0 a1 a2 (List.replicate ((a2.size : Int) : Int).toNat 0) (a2.size : Int) 0) else (none)) else (none)) else (some ((⟨#[]⟩ : ByteArray), false)))) = some (r1, r2) := h
 clear h
 replace H := Option.bind_eq_some_iff.mp H
 obtain ⟨t383, A40, H⟩ := H
 try dsimp only at H
 have A4 := Aside0.mk A40
 clear A40
 by_cases c5 : t383 = true
 ·subst c5
  rw [if_pos rfl] at H
  have H1 := H
  clear H
  have H := H1
  clear H1
  by_cases c6 : 0 ≤ (a2.size : Int)
  ·rw [if_pos c6] at H
   have c6b0 := eq_true c6
   have c6b1 := decide_eq_true c6
   clear c6
   by_cases c7 : ((a2.size : Int) : Int).toNat ≤ 281474976710656
   ·rw [if_pos c7] at H
    have c7b0 := eq_true c7
    have c7b1 := decide_eq_true c7
    clear c7
    obtain ⟨y384, hy384⟩ : ∃ y_ : List Int, y_ = (List.replicate ((a2.size : Int) : Int).toNat 0) := ⟨_, rfl⟩
    replace H : (impl_BlockInterleave.l0 k a0 a1 a2 y384 (a2.size : Int) 0) = some (r1, r2) := by first | (rw [hy384]; with_reducible exact H) | (have H2_ := (Option.bind_some _ _).symm.trans H; rw [hy384]; with_reducible exact H2_) | (have H2_ := (Option.bind_some _ _).symm.trans H; with_reducible exact H2_) | with_reducible exact H | (rw [hy384]; exact H) | exact H
    have Ny384 := Aside0.mk hy384
    clear hy384
    have H' := Aside0.mk H
    clear H
    go_enter Tryz.func67, Tryz.ntmps67
    go_wp2_with (first | ((with_reducible refine gate_callee (f := 104) rfl ?_); refine goesL_ (some 13) rfl rfl Tryz.func104 Ql0_ rfl #[.int .i64 a0, .int .i64 a1, .string a2] rfl Qb0_ ?_; (with_reducible refine (impl_isBlock.calls a0 a1 a2 true _ A4.out).mono ?_); rintro e w8 ⟨rfl, hb⟩; refine ⟨_, rfl, ?_⟩; have n0_ := Aside0.mk (below_step Qa0_ hb); clear HB; have HB := n0_; clear n0_; (try clear hb); (try clear hb2); (try clear hk); (try clear hi)) | ((with_reducible refine gate_dst (N := 17) rfl ?_); refine Kd.R_make (Kd.int .u8) _ 5 rfl (N := 17) rfl 22 _ _ rfl (a2.size : Int) rfl rfl Tryz.underlying22 (.int .u8 0) 1 info5 rfl (by decide) (by omega) 0 (ok := fun _ => True) (okp := fun _ => True) rfl (fun _ hk => hk) trivial (of_decide_eq_true Qg0_) (Nat.le_trans (Nat.mul_le_mul_right _ (of_decide_eq_true Qg0_ : (a2.size : Int).toNat ≤ 281474976710656)) (by omega)) (Below.refl _ _) (Nat.le_refl _) ?_; intro v385 w9 ho10 hb hg_ hnew_; clear hg_ hnew_; (first | rw [← Ny384.out] at ho10 | (simp only [Int.reduceToNat] at ho10; rw [← Ny384.out] at ho10)); have n0_ := Aside0.mk (Kd.R_lower ho10 (below_size Qa0_)); have n1_ := Aside0.mk (below_step Qa0_ hb); clear HB; have HO386 := n0_; have HB := n1_; clear n0_ n1_; clear hb ho10))
    go_loopg [20] k (fun kq v20 w' => ∃ (x8_1 : List Int) (x20_1 : Int), v20 = .int .i64 x20_1 ∧ Aside0 (impl_BlockInterleave.l0 kq a0 a1 a2 x8_1 (a2.size : Int) x20_1 = some (r1, r2)) ∧ Aside0 (kq ≤ k) ∧ Aside0 (Kd.R (Kd.int .u8) 5 w' w.heap.size (fun _ => True) v385 x8_1) ∧ Aside0 (Below w.heap.size w w'))
    case atStart => exact ⟨(y384), (0), Qf0_, H', ⟨Nat.le_refl _⟩, ⟨Qr_ HO386.out⟩, ⟨Qa0_⟩⟩
    case round =>
     clear H'
     try clear c1
     try clear p2
     try clear c5
     try clear c6
     try clear c6b0
     try clear c6b1
     try clear c7
     try clear c7b0
     try clear c7b1
     try clear c10
     obtain ⟨x8_1, x20_1, rfl, HA, HK1, HO_8, HB⟩ := hrel
     cases gk with
     | zero => exact absurd HA.out (by simp [impl_BlockInterleave.l0])
     | succ k1 =>
      have H := HA.out
      clear HA
      simp only [impl_BlockInterleave.l0] at H
      by_cases c11 : x20_1 < (a2.size : Int)
      ·rw [if_pos c11] at H
       have c11b0 := decide_eq_true c11
       clear c11
       replace H := Option.bind_eq_some_iff.mp H
       obtain ⟨t387, A120, H⟩ := H
       try dsimp only at H
       have A12 := Aside0.mk A120
       clear A120
       by_cases c13 : 0 ≤ x20_1
       ·rw [if_pos c13] at H
        have c13b0 := decide_eq_true c13
        clear c13
        by_cases c14 : x20_1 < (a2.size : Int)
        ·rw [if_pos c14] at H
         have c14b0 := decide_eq_true c14
         clear c14
         by_cases c16 : 0 ≤ t387
         ·rw [if_pos c16] at H
          have c16b0 := decide_eq_true c16
          clear c16
          by_cases c17 : t387 < (x8_1.length : Int)
          ·rw [if_pos c17] at H
           have c17b0 := decide_eq_true c17
           clear c17
           obtain ⟨y388, hy388⟩ : ∃ y_ : List Int, y_ = (x8_1.set (t387 : Int).toNat (bt a2 x20_1)) := ⟨_, rfl⟩
           replace H : (impl_BlockInterleave.l0 k1 a0 a1 a2 y388 (a2.size : Int) (wrap64 (x20_1 + 1))) = some (r1, r2) := by first | (rw [hy388]; with_reducible exact H) | (have H2_ := (Option.bind_some _ _).symm.trans H; rw [hy388]; with_reducible exact H2_) | (have H2_ := (Option.bind_some _ _).symm.trans H; with_reducible exact H2_) | with_reducible exact H | (rw [hy388]; exact H) | exact H
           have Ny388 := Aside0.mk hy388
           clear hy388
           have H' := Aside0.mk H
           clear H
           try go_wp2
           have n0_ := Aside0.mk (Kd.R_drew HO_8.out)
           have n1_ := Aside0.mk (below_drew1 HB.out)
           clear HO_8
           clear HB
           have HO_8 := n0_
           have HB := n1_
           clear n0_ n1_
           have p15 : 0 ≤ (x20_1 : Int) := of_decide_eq_true Qg0_
           have q15 : x20_1 < (a2.size : Int) := of_decide_eq_true Qg0_
           have hx15 := bt_at a2 x20_1
           replace p15 := eq_true p15
           replace q15 := eq_true q15
           refine start_ (n := 10) (S := fun w' => True) (ds := [9]) #[false, false, false, false, false, false, false, false, false, false] Ql0_ rfl rfl trivial (fun hHeld => ?_); refine with_tabW impl_BlockInterleave.tab7 impl_BlockInterleave.bits7 (fun HT_ HW_ => ?_)
           generalize wr.drew = w19 at HO_8 HB hHeld ⊢
           refine pure_ (i := 0) (N := some 23) (v := ?_) (a' := ?_) #[true, false, false, false, false, false, false, false, false, false] rfl rfl (any_of HT_.out Ql0_) (fun _ _ _ h => h) (Or.inl ⟨by rfl, ?_⟩) ?_ ?_
           rotate_left
           ·intro w'
            go_simp
            with_reducible rfl
           rotate_left
           ·simp only [Act.put, List.setIfInBounds_toArray, List.set_cons_zero, List.set_cons_succ, i64_w, i32_w]
            rfl
           refine pure_ (i := 1) (N := some 24) (v := ?_) (a' := ?_) #[true, true, false, false, false, false, false, false, false, false] rfl rfl (any_of HT_.out Ql0_) (fun _ _ _ h => h) (Or.inl ⟨by rfl, ?_⟩) ?_ ?_
           rotate_left
           ·intro w'
            go_simp
            with_reducible rfl
           rotate_left
           ·simp only [Act.put, List.setIfInBounds_toArray, List.set_cons_zero, List.set_cons_succ, i64_w, i32_w]
            rfl
           refine pure_ (i := 2) (N := some 25) (v := ?_) (a' := ?_) #[true, true, true, false, false, false, false, false, false, false] rfl rfl (any_of HT_.out Ql0_) (fun _ _ _ h => h) (Or.inl ⟨by rfl, ?_⟩) ?_ ?_
           rotate_left
           ·intro w'
            go_simp
            with_reducible rfl
           rotate_left
           ·simp only [Act.put, List.setIfInBounds_toArray, List.set_cons_zero, List.set_cons_succ, i64_w, i32_w]
            rfl
           refine pure_ (i := 3) (N := some 26) (v := ?_) (a' := ?_) #[true, true, true, true, false, false, false, false, false, false] rfl rfl (any_of HT_.out Ql0_) (fun _ _ _ h => h) (Or.inl ⟨by rfl, ?_⟩) ?_ ?_
           rotate_left
           ·intro w'
            go_simp
            with_reducible rfl
           rotate_left
           ·simp only [Act.put, List.setIfInBounds_toArray, List.set_cons_zero, List.set_cons_succ, i64_w, i32_w]
            rfl
           refine pure_ (i := 5) (N := some 28) (v := ?_) (a' := ?_) #[true, true, true, true, false, true, false, false, false, false] rfl rfl (any_of HT_.out Ql0_) (fun _ _ _ h => h) (Or.inl ⟨by rfl, ?_⟩) ?_ ?_
           rotate_left
           ·intro w'
            go_simp
            with_reducible rfl
           rotate_left
           ·simp only [Act.put, List.setIfInBounds_toArray, List.set_cons_zero, List.set_cons_succ, i64_w, i32_w]
            rfl
           refine pure_ (i := 6) (N := some 29) (v := ?_) (a' := ?_) #[true, true, true, true, false, true, true, false, false, false] rfl rfl (any_of HT_.out Ql0_) (fun _ _ _ h => h) (Or.inl ⟨by rfl, ?_⟩) ?_ ?_
           rotate_left
           ·intro w'
            go_simp
            with_reducible rfl
           rotate_left
           ·simp only [Act.put, List.setIfInBounds_toArray, List.set_cons_zero, List.set_cons_succ, i64_w, i32_w]
            rfl
           refine take_ (i := 7) (N := some 30) (v := ?_) (a' := ?_) #[true, true, true, true, false, true, true, true, false, false] rfl rfl (take_ofW HT_.out HW_.out Ql0_) (fun _ _ _ h => h) (Or.inl ⟨by rfl, ?_⟩) hHeld ?_ ?_
           rotate_left
           ·intro w' _
            go_simp
            with_reducible rfl
           rotate_left
           ·simp only [Act.put, List.setIfInBounds_toArray, List.set_cons_zero, List.set_cons_succ, i64_w, i32_w]
            rfl
           refine one_ (i := 4) (N := some 27) #[true, true, true, true, true, true, true, true, false, false] rfl rfl (one_of HT_.out Ql0_) (by decide) (fun K hK => ?_)
           refine goes_ Tryz.func105 Ql0_ rfl #[.int .i64 a0, .int .i64 a1, .int .i64 x20_1] (by rfl) rfl rfl Qb0_ ?_
           with_reducible refine (impl_behindPlace.calls a0 a1 x20_1 t387 _ A12.out).mono ?_
           rintro e w' ⟨rfl, ⟨nd, rfl⟩⟩
           refine ⟨_, rfl, ?_⟩
           have p18 : 0 ≤ (t387 : Int) := of_decide_eq_true Qg0_
           have q18 : (t387 : Int) < ((x8_1.length : Int) : Int) := of_decide_eq_true Qg0_
           obtain ⟨go18, co18, eo18, gb18, gl18, cl18, HG18⟩ := Kd.R_form HO_8.out (by omega)
           (first | cases eo18 | (injection eo18 with ea_ en_ ec_; (first | subst ea_ | (injection ea_ with ea_; subst ea_)); subst ec_; clear en_))
           have GB18 := Aside0.mk gb18
           have GG18 := Aside0.mk HG18
           clear gb18 gl18 HG18
           obtain ⟨hx18_0, hf18_0⟩ := Kd.R_celln 0 HO_8.out (t387 : Int) p18 q18
           replace p18 := eq_true p18
           replace q18 := eq_true q18
           have HP20 := Kd.R_putn HO_8.out (t387 : Int) (bt a2 x20_1)
           rw [← Ny388.out] at HP20
           have HQ20 := Aside0.mk HP20
           clear HP20
           refine hK.out _ _ trivial (fun hHeld => ?_)
           clear hK K
           refine norm_ (a' := ?_) ?_ ?_
           rotate_left
           ·show Act.put _ (some 27) _ = _
            simp only [Act.put, List.setIfInBounds_toArray, List.set_cons_zero, List.set_cons_succ, i64_w, i32_w]
            rfl
           refine pure_ (i := 8) (N := some 31) (v := ?_) (a' := ?_) #[true, true, true, true, true, true, true, true, true, false] rfl rfl (any_of HT_.out Ql0_) (fun _ _ _ h => h) (Or.inl ⟨by rfl, ?_⟩) ?_ ?_
           rotate_left
           ·intro w'
            go_simp
            with_reducible rfl
           rotate_left
           ·simp only [Act.put, List.setIfInBounds_toArray, List.set_cons_zero, List.set_cons_succ, i64_w, i32_w]
            rfl
           refine last_ (i := 9) (N := none) #[true, true, true, true, true, true, true, true, true, true] rfl rfl (one_of HT_.out Ql0_) (by decide) (fun K hK => ?_)
           refine skip_ (w1 := ?_) (by rfl) rfl ?_ ?_
           rotate_left
           ·go_simp
            rfl
           refine hK.out _ _ ?_
           clear hK K
           refine done_ (done_of HT_.out Ql0_) ?_
           try go_wp2
           go_roundg k1
           case measure => have := HK1.out; omega
           case rel => exact ⟨(y388), (wrap64 (x20_1 + 1)), Qf0_, H', ⟨Qs0_⟩, ⟨Qr_ HQ20.out⟩, ⟨Qg_ GB18.out⟩⟩
          ·rw [if_neg c17] at H
           exact absurd H (by simp)
         ·rw [if_neg c16] at H
          exact absurd H (by simp)
        ·rw [if_neg c14] at H
         exact absurd H (by simp)
       ·rw [if_neg c13] at H
        exact absurd H (by simp)
      ·rw [if_neg c11] at H
       have c11b0 := decide_eq_false c11
       clear c11
       simp only [Option.some.injEq, Prod.mk.injEq] at H
       obtain ⟨rfl, rfl⟩ := H
       have hcv21 := own_string (P := Tryz.prog) Tryz.underlying22 Tryz.underlying5 Tryz.underlying9 (Kd.own_of_R HO_8.out)
       go_wp2
       go_ret2
       exact ⟨Qh0_, Qa0_⟩
   ·rw [if_neg c7] at H
    exact absurd H (by simp)
  ·rw [if_neg c6] at H
   exact absurd H (by simp)
 ·replace c5 := Bool.eq_false_iff.mpr c5
  subst c5
  rw [if_neg (show ¬ (false = true) by decide)] at H
  have H1 := H
  clear H
  have H := H1
  clear H1
  simp only [Option.some.injEq, Prod.mk.injEq] at H
  obtain ⟨rfl, rfl⟩ := H
  go_enter Tryz.func67, Tryz.ntmps67
  go_wp2_with (first | ((with_reducible refine gate_callee (f := 104) rfl ?_); refine goesL_ (some 13) rfl rfl Tryz.func104 Ql0_ rfl #[.int .i64 a0, .int .i64 a1, .string a2] rfl Qb0_ ?_; (with_reducible refine (impl_isBlock.calls a0 a1 a2 false _ A4.out).mono ?_); rintro e w22 ⟨rfl, hb⟩; refine ⟨_, rfl, ?_⟩; have n0_ := Aside0.mk (below_step Qa0_ hb); clear HB; have HB := n0_; clear n0_; (try clear hb); (try clear hb2); (try clear hk); (try clear hi)))
  go_ret2
  exact ⟨Qh0_, Qa0_⟩
def impl_BlockDeinterleave.f (k : Nat) (a0 : Int) (a1 : Int) (a2 : ByteArray) : Option (ByteArray × Bool) := (impl_BlockInterleave.f k a1 a0 a2).bind fun bt389 => (some (bt389.1, bt389.2))
set_option maxHeartbeats 8000000 in
set_option maxRecDepth 100000 in
theorem impl_BlockDeinterleave.calls (k : Nat) (a0 : Int) (a1 : Int) (a2 : ByteArray) (r1 : ByteArray) (r2 : Bool) (w : World) (h : impl_BlockDeinterleave.f k a0 a1 a2 = some (r1, r2)) :
 Calls Tryz.prog 68 #[.int .i64 a0, .int .i64 a1, .string a2] w fun e w' => e = .returned (.tuple #[.string r1, .bool r2]) ∧ Below w.heap.size w w' := by
 have HB := Aside0.mk (Below.refl w.heap.size w)
 have H : ((impl_BlockInterleave.f k a1 a0 a2).bind fun bt389 => (some (bt389.1, bt389.2))) = some (r1, r2) := h
 clear h
 replace H := Option.bind_eq_some_iff.mp H
 obtain ⟨⟨t389, t390⟩, A40, H⟩ := H
 try dsimp only at H
 have A4 := Aside0.mk A40
 clear A40
 simp only [Option.some.injEq, Prod.mk.injEq] at H
 obtain ⟨rfl, rfl⟩ := H
 go_enter Tryz.func68, Tryz.ntmps68
 go_wp2_with (first | ((with_reducible refine gate_callee (f := 67) rfl ?_); refine goesL_ (some 11) rfl rfl Tryz.func67 Ql0_ rfl #[.int .i64 a1, .int .i64 a0, .string a2] rfl Qb0_ ?_; (with_reducible refine (impl_BlockInterleave.calls k a1 a0 a2 t389 t390 _ A4.out).mono ?_); rintro e w5 ⟨rfl, hb⟩; refine ⟨_, rfl, ?_⟩; have n0_ := Aside0.mk (below_step Qa0_ hb); clear HB; have HB := n0_; clear n0_; (try clear hb); (try clear hb2); (try clear hk); (try clear hi)))
 go_ret2
 exact ⟨Qh0_, Qa0_⟩
end Go.Proofs.YtdaeioklcilipaaGreatDoor.QFnConsole
