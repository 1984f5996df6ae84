/- Made small by wip/pack.py: lemmas and contracts that the law's row leans on. -/
import Derived.Test.YtdnjebnmianogaaGreatDoorZFnTop27
import Derived.Test.YtdnjebnmianogaaGreatDoorZFnTop28
import Derived.Test.YtdnjebnmianogaaGreatDoorZFnTop29
import Derived.Test.YtdnjebnmianogaaGreatDoorZFnTop30
import Derived.Test.YtdnjebnmianogaaGreatDoorZFnTop32
import Derived.Test.YtdnjebnmianogaaGreatDoorZFnTop36
namespace Go.Proofs.YtdnjebnmianogaaGreatDoor.QFnTop
open Go.RowKit Go.Proofs.YtdnjebnmianogaaGreatDoorW.PrintWords Go.Proofs.YtdnjebnmianogaaGreatDoorW.PrintLast Go.Proofs.YtdnjebnmianogaaGreatDoorW.PrintMore
attribute [local go_sem] max2_int min2_int max_two min_two max_three min_three max_four min_four
set_option linter.unusedVariables false
set_option linter.unusedSimpArgs false
def impl_decoded.f (k : Nat) (a0_0 : ByteArray) (a0_1 : Int) (a0_2 : ByteArray) (l0_3 : List Int) (l0_4 : List Int) : Option (ByteArray × Bool) := if 0 < (l0_3.length : Int) then (if 1 < (l0_3.length : Int) then ((impl_MakeBlockCode.f k (rd l0_3 0) (rd l0_3 1)).bind fun bt375 => (if 2 < (l0_3.length : Int) then ((impl_DecodeBlocks.f k bt375.1 bt375.2.1 bt375.2.2.1 bt375.2.2.2.1 (rd l0_3 2) a0_2).bind fun bt386 => ((impl_ListText.f k bt386.1).bind fun bt394 => ((impl_ListText.f k bt386.2.1).bind fun bt396 => (if bt394.1.size + 1 ≤ 9223372036854775807 then (if (bt394.1 ++ (⟨#[32]⟩ : ByteArray)).size + bt396.1.size ≤ 9223372036854775807 then (if bt375.2.2.2.2 = true then (if bt386.2.2.2 = true then (if bt394.2 = true then (some ((bt394.1 ++ (⟨#[32]⟩ : ByteArray)) ++ bt396.1, bt396.2)) else (some ((bt394.1 ++ (⟨#[32]⟩ : ByteArray)) ++ bt396.1, false))) else (some ((bt394.1 ++ (⟨#[32]⟩ : ByteArray)) ++ bt396.1, false))) else (some ((bt394.1 ++ (⟨#[32]⟩ : ByteArray)) ++ bt396.1, false))) else (none)) else (none))))) else (none))) else (none)) else (none)
set_option maxHeartbeats 8000000 in
set_option maxRecDepth 100000 in
theorem impl_decoded.calls (k : Nat) (a0_0 : ByteArray) (a0_1 : Int) (a0_2 : ByteArray) (A0_3 : Option Addr) (c0_3 : Nat) (l0_3 : List Int) (A0_4 : Option Addr) (c0_4 : Nat) (l0_4 : List Int) (r1 : ByteArray) (r2 : Bool) (w : World) (hr0_3 : Kd.C (Kd.int .i64) w A0_3 l0_3.length l0_3) (hc0_3 : l0_3.length ≤ c0_3) (hr0_4 : Kd.C (Kd.int .i64) w A0_4 l0_4.length l0_4) (hc0_4 : l0_4.length ≤ c0_4) (hT : LibW w) (h : impl_decoded.f k a0_0 a0_1 a0_2 l0_3 l0_4 = some (r1, r2)) :
 Calls Tryz.prog 94 #[.agg #[.string a0_0, .int .i64 a0_1, .string a0_2, .slice A0_3 l0_3.length c0_3, .slice A0_4 l0_4.length c0_4]] w fun e w' => e = .returned (.tuple #[.string r1, .bool r2]) ∧ Below w.heap.size w w' := by
 have hu67 := Tryz.underlying101
 have hu98 := Tryz.underlying26
 have HT := Aside0.mk hT
 have HB := Aside0.mk (Below.refl w.heap.size w)
 unfold impl_decoded.f at h
 by_cases e1 : 0 < (l0_3.length : Int)
 rotate_left
 ·rw [if_neg e1] at h; cases h
 rw [if_pos e1] at h
 by_cases e2 : 1 < (l0_3.length : Int)
 rotate_left
 ·rw [if_neg e2] at h; cases h
 rw [if_pos e2] at h
 obtain ⟨⟨m0, m1, l2, l3, ok1⟩, B1, h⟩ := Option.bind_eq_some_iff.mp h
 by_cases e3 : 2 < (l0_3.length : Int)
 rotate_left
 ·rw [if_neg e3] at h; cases h
 rw [if_pos e3] at h
 obtain ⟨⟨d0, d1, d2, ok2⟩, B2, h⟩ := Option.bind_eq_some_iff.mp h
 obtain ⟨⟨t1, ok3⟩, B3, h⟩ := Option.bind_eq_some_iff.mp h
 obtain ⟨⟨t2, ok4⟩, B4, h⟩ := Option.bind_eq_some_iff.mp h
 by_cases e4 : t1.size + 1 ≤ 9223372036854775807
 rotate_left
 ·rw [if_neg e4] at h; cases h
 rw [if_pos e4] at h
 by_cases e5 : (t1 ++ (⟨#[32]⟩ : ByteArray)).size + t2.size ≤ 9223372036854775807
 rotate_left
 ·rw [if_neg e5] at h; cases h
 rw [if_pos e5] at h
 have hr : r1 = (t1 ++ (⟨#[32]⟩ : ByteArray)) ++ t2 ∧ r2 = (ok1 && (ok2 && (ok3 && ok4))) := by
  cases ok1 <;> cases ok2 <;> cases ok3 <;> cases ok4 <;> simp at h <;> exact ⟨by first | exact h.1.symm | exact h.symm, by first | exact h.2.symm | rfl | (simp [h]; done)⟩
 obtain ⟨rfl, rfl⟩ := hr
 clear h
 have hs1 : (t1 ++ (⟨#[32]⟩ : ByteArray)).size = t1.size + 1 := by rw [ByteArray.size_append]; rfl
 have f1 : (9223372036854775807 < t1.size + 1) = False := eq_false (by omega)
 have f2 : (9223372036854775807 < t1.size + 1 + t2.size) = False := eq_false (by omega)
 obtain ⟨ad, ed, hx0⟩ := Kd.at_int hr0_3 0 (by decide) e1
 cases ed
 obtain ⟨ad1, ed1, hx1⟩ := Kd.at_int hr0_3 1 (by decide) e2
 rw [← Option.some.inj ed1] at hx1
 obtain ⟨ad2, ed2, hx2⟩ := Kd.at_int hr0_3 2 (by decide) e3
 rw [← Option.some.inj ed2] at hx2
 have HX0 := Aside0.mk (show w.cell? (ad.add 0) = some (.int .i64 (rd l0_3 0)) from hx0)
 have HX1 := Aside0.mk (show w.cell? (ad.add 1) = some (.int .i64 (rd l0_3 1)) from hx1)
 have HX2 := Aside0.mk (show w.cell? (ad.add 2) = some (.int .i64 (rd l0_3 2)) from hx2)
 have HXZ := Aside0.mk (show w.cell? ad = some (.int .i64 (rd l0_3 0)) by simpa [Addr.add] using hx0)
 have p0 := eq_true e1
 have p1 := eq_true e2
 have p2 := eq_true e3
 have q0 : (0 < l0_3.length) = True := eq_true (by omega)
 have q1 : (1 < l0_3.length) = True := eq_true (by omega)
 have q2 : (2 < l0_3.length) = True := eq_true (by omega)
 have B1_ := Aside0.mk B1
 have B2_ := Aside0.mk (show impl_DecodeBlocks.f k m0 m1 l2 l3 (rd l0_3 2) a0_2 = some (d0, d1, d2, ok2) from B2)
 have B3_ := Aside0.mk (show impl_ListText.f k d0 = some (t1, ok3) from B3)
 have B4_ := Aside0.mk (show impl_ListText.f k d1 = some (t2, ok4) from B4)
 clear ed1 ed2 hx0 hx1 hx2 e1 e2 e3 e4 e5 B1 B2 B3 B4 hT hr0_3 hc0_3 hr0_4 hc0_4
 go_enter Tryz.func94, Tryz.ntmps94
 go_wp2_with (first | ((with_reducible refine gate_dst (N := 1) rfl ?_); (try (refine gate_guard (by rfl) ?_; dsimp only)); refine box_event ?hg (N := 1) ?hd (cs := #[.string a0_0, .int .i64 a0_1, .string a0_2, .slice (some ad) l0_3.length c0_3, .slice A0_4 l0_4.length c0_4]) (t := 101) ?hr ?_; (case hd => rfl); (case hg => rfl); (case hr => exact Qg0_); intro ga hgga wg hbox hb; have n0_ := Aside0.mk (below_step Qa0_ hb); have HGA := Aside0.mk (show w.heap.size ≤ ga by omega); have n1_ := Aside0.mk (hbox); clear HB; have HB := n0_; have BKga := n1_; clear n0_ n1_; clear hb hbox hgga; have hczga0 : wg.cell? ⟨ga, 0, none⟩ = some (.string a0_0) := (blk_cell BKga.out 0).trans rfl; have hczga1 : wg.cell? ⟨ga, 1, none⟩ = some (.int .i64 a0_1) := (blk_cell BKga.out 1).trans rfl; have hczga2 : wg.cell? ⟨ga, 2, none⟩ = some (.string a0_2) := (blk_cell BKga.out 2).trans rfl; have hczga3 : wg.cell? ⟨ga, 3, none⟩ = some (.slice (some ad) l0_3.length c0_3) := (blk_cell BKga.out 3).trans rfl; have hczga4 : wg.cell? ⟨ga, 4, none⟩ = some (.slice A0_4 l0_4.length c0_4) := (blk_cell BKga.out 4).trans rfl))
 have hcA3 : wg.cell? ⟨ga, 3, none⟩ = some (.slice (some ad) l0_3.length c0_3) := (blk_cell BKga.out 3).trans rfl
 have hnz := pw_cell_below HB.out HXZ.out
 have hn1 := pw_cell_below HB.out HX1.out
 have hn1s := hn1
 simp [Addr.add] at hn1s
 have HSof := Aside0.mk (fun (w' : World) (hb : Below wg.heap.size wg w') => And.intro (pw_cell_below hb hcA3) (And.intro (pw_cell_below hb hnz) (pw_cell_below hb hn1s)))
 go_cut [4, 5] (fun v4 v5 wx => ∃ (g : Nat) (v2 v3 : Value), v4 = .pointer (some ⟨g, 0, none⟩) ∧ v5 = .bool ok1 ∧ Aside0 (dcI w wx ga #[.string a0_0, .int .i64 a0_1, .string a0_2, .slice (some ad) l0_3.length c0_3, .slice A0_4 l0_4.length c0_4] g m0 m1 v2 v3 l2 l3))
 case first =>
  go_region_held3 (fun w' => w'.cell? ⟨ga, 3, none⟩ = some (.slice (some ad) l0_3.length c0_3) ∧ w'.cell? ad = some (.int .i64 (rd l0_3 0)) ∧ w'.cell? ⟨ad.block, ad.off + 1, none⟩ = some (.int .i64 (rd l0_3 1))) (first | exact HSof.out _ Qs1_) (first | (go_at_call 5; (with_reducible refine (impl_MakeBlockCode.calls k (rd l0_3 0) (rd l0_3 1) m0 m1 l2 l3 ok1 _ B1_.out).mono ?_); rintro e w2 ⟨v2, v3, rfl, ho2, ho3, hb⟩; obtain ⟨A2, c2, e2_⟩ := Kd.R_slice ho2; subst e2_; obtain ⟨A3, c3, e3_⟩ := Kd.R_slice ho3; subst e3_; have HW2 := Aside0.mk (show Below w.heap.size w w2 from below_step (below_step HB.out Qm0_) hb); have HS2 := Aside0.mk (show wg.heap.size ≤ w2.heap.size from Nat.le_trans (show Below wg.heap.size wg _ from Qm0_).size hb.size); have HR2 := Aside0.mk (Kd.R_lower (Kd.R_mono ho2 (fun _ _ => trivial)) (below_step HB.out Qm0_).size); have HR3 := Aside0.mk (Kd.R_lower (Kd.R_mono ho3 (fun _ _ => trivial)) (below_step HB.out Qm0_).size); have HA2 := Aside0.mk (show w2.heap[ga]? = some (.cells #[.string a0_0, .int .i64 a0_1, .string a0_2, .slice (some ad) l0_3.length c0_3, .slice A0_4 l0_4.length c0_4] 101 (0, 0)) from (hb.block ga (Nat.lt_of_lt_of_le (dc_lt BKga.out) (show Below wg.heap.size wg _ from Qm0_).size)).trans (((show Below wg.heap.size wg _ from Qm0_).block ga (dc_lt BKga.out)).trans BKga.out)); (first | (have hbk_ : w2.heap[wg.heap.size]? = some (.cells #[.int .i64 0, .int .i64 0, .slice none 0 0, .slice none 0 0] 26 (0, 0)) := (hb.block wg.heap.size (dc_lt (heap_alloc_new _ _))).trans (heap_alloc_new _ _); have HBG := Aside0.mk hbk_; have hz0 := (blk_cell hbk_ 0).trans rfl; have hz1 := (blk_cell hbk_ 1).trans rfl; have hz2 := (blk_cell hbk_ 2).trans rfl; have hz3 := (blk_cell hbk_ 3).trans rfl; have hf0 := blk_frozen hbk_ 0; have hf1 := blk_frozen hbk_ 1; have hf2 := blk_frozen hbk_ 2; have hf3 := blk_frozen hbk_ 3; clear hbk_) | skip); have HWG := Aside0.mk (below_step (show Below wg.heap.size wg _ from Qm0_) hb); clear ho2 ho3 hb))
  all_goals (go_wp2; go_meet; exact ⟨_, _, _, rfl, rfl, ⟨by first | exact (dcI.made HW2.out HA2.out HBG.out HB.out.size HR2.out HR3.out rfl).below Qm0_ | exact (show dcI w (w2.alloc _) ga _ _ _ _ _ _ _ _ from ⟨below_step HW2.out (below_alloc (Below.refl w2.heap.size w2) _), ((below_alloc (Below.refl w2.heap.size w2) _).block ga (dc_lt HA2.out)).trans HA2.out, heap_alloc_new _ _, dc_row HR2.out (fun k_ c_ h_ => (below_alloc (Below.refl w2.heap.size w2) _).block k_ (dc_lt h_)), dc_row HR3.out (fun k_ c_ h_ => (below_alloc (Below.refl w2.heap.size w2) _).block k_ (dc_lt h_))⟩)⟩⟩)
 case rest =>
  obtain ⟨g, v2, v3, rfl, rfl, HD⟩ := hcut
  obtain ⟨A2, c2, e2, hl2, hC2⟩ := Kd.R_reads HD.out.2.2.2.1
  subst e2
  obtain ⟨A3, c3, e3, hl3, hC3⟩ := Kd.R_reads HD.out.2.2.2.2
  subst e3
  have HC2 := Aside0.mk hC2
  have HC3 := Aside0.mk hC3
  have HL2 := Aside0.mk hl2
  have HL3 := Aside0.mk hl3
  clear hC2 hC3 hl2 hl3
  have hd0 : wc.cell? ⟨g, 0, none⟩ = some (.int .i64 m0) := (blk_cell HD.out.2.2.1 0).trans rfl
  have hd1 : wc.cell? ⟨g, 1, none⟩ = some (.int .i64 m1) := (blk_cell HD.out.2.2.1 1).trans rfl
  have hd2 : wc.cell? ⟨g, 2, none⟩ = some (.slice A2 l2.length c2) := (blk_cell HD.out.2.2.1 2).trans rfl
  have hd3 : wc.cell? ⟨g, 3, none⟩ = some (.slice A3 l3.length c3) := (blk_cell HD.out.2.2.1 3).trans rfl
  have he2 : wc.cell? ⟨ga, 2, none⟩ = some (.string a0_2) := (blk_cell HD.out.2.1 2).trans rfl
  have he3 : wc.cell? ⟨ga, 3, none⟩ = some (.slice (some ad) l0_3.length c0_3) := (blk_cell HD.out.2.1 3).trans rfl
  have hn2 := pw_cell_below HD.out.1 HX2.out
  have hn2s := hn2
  simp [Addr.add] at hn2s
  have HSf2 := Aside0.mk (fun (w' : World) (hb : Below wc.heap.size wc w') => And.intro (pw_cell_below hb hd0) (And.intro (pw_cell_below hb hd1) (And.intro (pw_cell_below hb hd2) (And.intro (pw_cell_below hb hd3) (And.intro (pw_cell_below hb he3) (And.intro (pw_cell_below hb he2) (pw_cell_below hb hn2s)))))))
  go_wp2
  go_cut [6, 7, 8, 9] (fun v6 v7 v8 v9 wx => ∃ (u0 u1 : Value), v6 = u0 ∧ v7 = u1 ∧ v8 = .int .i64 d2 ∧ v9 = .bool ok2 ∧ Aside0 (Below w.heap.size w wx ∧ Kd.R (Kd.int .i64) 2 wx w.heap.size (fun _ => True) u0 d0 ∧ Kd.R (Kd.int .i64) 2 wx w.heap.size (fun _ => True) u1 d1))
  case first =>
   go_region_held3 (fun w' => w'.cell? ⟨g, 0, none⟩ = some (.int .i64 m0) ∧ w'.cell? ⟨g, 1, none⟩ = some (.int .i64 m1) ∧ w'.cell? ⟨g, 2, none⟩ = some (.slice A2 l2.length c2) ∧ w'.cell? ⟨g, 3, none⟩ = some (.slice A3 l3.length c3) ∧ w'.cell? ⟨ga, 3, none⟩ = some (.slice (some ad) l0_3.length c0_3) ∧ w'.cell? ⟨ga, 2, none⟩ = some (.string a0_2) ∧ w'.cell? ⟨ad.block, ad.off + 2, none⟩ = some (.int .i64 (rd l0_3 2))) (first | exact HSf2.out _ (by repeat (first | exact Below.refl _ _ | exact HWE.out | apply below_drew1 | apply pw_below_drewN))) (first | (go_at_call 115; (with_reducible refine (impl_DecodeBlocks.calls k m0 m1 A2 c2 l2 A3 c3 l3 (rd l0_3 2) a0_2 d0 d1 d2 ok2 _ ?s1 ?s2 ?s3 ?s4 B2_.out).mono ?_); (case s1 => exact Kd.C_below HC2.out Qi0_); (case s2 => exact HL2.out); (case s3 => exact Kd.C_below HC3.out Qi0_); (case s4 => exact HL3.out); rintro e w5 ⟨u0, u1, rfl, ho0, ho1, hb⟩; have HWE := Aside0.mk (below_step (show Below wc.heap.size wc _ from Qi0_) hb); have HE := Aside0.mk (And.intro (below_step (below_step HD.out.1 Qi0_) hb) (And.intro (Kd.R_lower (Kd.R_mono ho0 (fun _ _ => trivial)) (below_step HD.out.1 Qi0_).size) (Kd.R_lower (Kd.R_mono ho1 (fun _ _ => trivial)) (below_step HD.out.1 Qi0_).size))); clear ho0 ho1 hb))
   all_goals (go_wp2; go_meet; exact ⟨_, _, rfl, rfl, rfl, rfl, ⟨HE.out⟩⟩)
  case rest =>
   obtain ⟨u0, u1, rfl, rfl, rfl, rfl, HE⟩ := hcut
   obtain ⟨D0, x0, e0, hz0, hZ0⟩ := Kd.R_reads HE.out.2.1
   subst e0
   obtain ⟨D1, x1, e1, hz1, hZ1⟩ := Kd.R_reads HE.out.2.2
   subst e1
   have HZ0 := Aside0.mk hZ0
   have HZ1 := Aside0.mk hZ1
   have HY0 := Aside0.mk hz0
   have HY1 := Aside0.mk hz1
   clear hZ0 hZ1 hz0 hz1
   go_wp2_with (first | (go_at_call 7; (with_reducible refine (impl_ListText.calls k D0 x0 d0 t1 ok3 _ ?HB51 ?HB52 ?HB53 B3_.out).mono ?_); (case HB51 => exact HZ0.out); (case HB52 => exact HY0.out); (case HB53 => exact tabBelow HT.out HE.out.1); rintro e w5 ⟨rfl, hb⟩; have HB5 := Aside0.mk (below_step HE.out.1 hb); have HBL := Aside0.mk hb; clear hb) | (go_at_call 7; (with_reducible refine (impl_ListText.calls k D1 x1 d1 t2 ok4 _ ?HB61 ?HB62 ?HB63 B4_.out).mono ?_); (case HB61 => exact Kd.C_below HZ1.out HBL.out); (case HB62 => exact HY1.out); (case HB63 => exact tabBelow HT.out HB5.out); rintro e w6 ⟨rfl, hb⟩; have HB6 := Aside0.mk (below_step HB5.out hb); have HBL := Aside0.mk hb; clear hb))
   all_goals (go_ret2; exact ⟨Qc0_, HB6.out⟩)
mutual
def impl_VoteBits.j0 : Nat → ByteArray → Int → Bool → Option (ByteArray × Bool)
 | 0, _, _, _ => none
 | k + 1, x0, x1, x21 => if x21 = true then (some ((⟨#[]⟩ : ByteArray), false)) else (impl_VoteBits.l0 k x0 x1 (⟨#[]⟩ : ByteArray))
def impl_VoteBits.l0 : Nat → ByteArray → Int → ByteArray → Option (ByteArray × Bool)
 | 0, _, _, _ => none
 | k + 1, x0, x1, x6 => if x0.toList = ([] : List UInt8) then (some (x6, true)) else (if 0 ≤ x1 then (if x1 ≤ (x0.size : Int) then ((strings_Count.f (x0.extract 0 (x1 : Int).toNat) (⟨#[49]⟩ : ByteArray)).bind fun t283 => ((impl_bitOf.f (decide ((wrap64 (2 * t283)) > x1))).bind fun t284 => (if x6.size + t284.size ≤ 9223372036854775807 then (impl_VoteBits.l0 k (x0.extract (x1 : Int).toNat x0.size) x1 (x6 ++ t284)) else (none)))) else (none)) else (none))
end
def impl_VoteBits.f (k : Nat) (a0 : ByteArray) (a1 : Int) : Option (ByteArray × Bool) := (impl_IsBits.f a0).bind fun t281 => (if t281 = true then ((impl_isVotes.f a1).bind fun t282 => (if t282 = true then (if a1 = 0 then (none) else (impl_VoteBits.j0 k a0 a1 (((a0.size : Int) % a1) != 0))) else (impl_VoteBits.j0 k a0 a1 true))) else (impl_VoteBits.j0 k a0 a1 true))
set_option maxHeartbeats 8000000 in
set_option maxRecDepth 100000 in
theorem impl_VoteBits.calls (k : Nat) (a0 : ByteArray) (a1 : Int) (r1 : ByteArray) (r2 : Bool) (w : World) (h : impl_VoteBits.f k a0 a1 = some (r1, r2)) :
 Calls Tryz.prog 116 #[.string a0, .int .i64 a1] w fun e w' => e = .returned (.tuple #[.string r1, .bool r2]) ∧ Below w.heap.size w w' := by
 have HB := Aside0.mk (Below.refl w.heap.size w)
 have H : ((impl_IsBits.f a0).bind fun t281 => (if t281 = true then ((impl_isVotes.f a1).bind fun t282 => (if t282 = true then (if a1 = 0 then (none) else (impl_VoteBits.j0 k a0 a1 (((a0.size : Int) % a1) != 0))) else (impl_VoteBits.j0 k a0 a1 true))) else (impl_VoteBits.j0 k a0 a1 true))) = some (r1, r2) := h
 clear h
 have HC3 := Aside0.mk H
 clear H
 go_enter Tryz.func116, Tryz.ntmps116
 go_upto_region 1 with (fail)
 go_cut [21] (fun v21 wc => ∃ (kq : Nat) (x21_2 : Bool), v21 = .bool x21_2 ∧ Aside0 (impl_VoteBits.j0 kq a0 a1 x21_2 = some (r1, r2)) ∧ Aside0 (kq ≤ k) ∧ Aside0 (Below w.heap.size w wc))
 case first =>
  have H := HC3.out
  clear HC3
  replace H := Option.bind_eq_some_iff.mp H
  obtain ⟨t281, A40, H⟩ := H
  try dsimp only at H
  have A4 := Aside0.mk A40
  clear A40
  by_cases c5 : t281 = true
  ·subst c5
   rw [if_pos rfl] at H
   have H1 := H
   clear H
   have H := H1
   clear H1
   replace H := Option.bind_eq_some_iff.mp H
   obtain ⟨t282, A60, H⟩ := H
   try dsimp only at H
   have A6 := Aside0.mk A60
   clear A60
   by_cases c7 : t282 = true
   ·subst c7
    rw [if_pos rfl] at H
    have H1 := H
    clear H
    have H := H1
    clear H1
    by_cases c8 : a1 = 0
    ·rw [if_pos c8] at H
     exact absurd H (by simp)
    ·rw [if_neg c8] at H
     have c8b0 := beq_eq_false_iff_ne.mpr c8
     have c8b1 := bne_iff_ne.mpr c8
     (first | rw [c8b0] | (simp only [i64_w, i32_w]; rw [c8b0]) | skip)
     have H' := Aside0.mk H
     clear H
     go_wp2_with (first | ((with_reducible refine gate_callee (f := 35) rfl ?_); refine goesL_ (some 8) rfl rfl Tryz.func35 Qh0_ rfl #[.string a0] rfl Qb0_ ?_; (with_reducible refine (impl_IsBits.calls a0 true _ A4.out).mono ?_); rintro e w9 ⟨rfl, hb⟩; refine ⟨_, rfl, ?_⟩; have n0_ := Aside0.mk (below_step Qa0_ hb); clear HB; have HB := n0_; clear n0_; (try clear hb); (try clear hb2); (try clear hk); (try clear hi)) | (go_at_call 36; (with_reducible refine (impl_isVotes.calls a1 true _ A6.out).mono ?_); rintro e w' ⟨rfl, ⟨nd, rfl⟩⟩))
     go_meet
     case rel => exact ⟨_, ((((a0.size : Int) % a1) != 0)), Qc0_, H', ⟨Qe1_⟩, ⟨Qa0_⟩⟩
   ·replace c7 := Bool.eq_false_iff.mpr c7
    subst c7
    rw [if_neg (show ¬ (false = true) by decide)] at H
    have H1 := H
    clear H
    have H := H1
    clear H1
    have H' := Aside0.mk H
    clear H
    go_wp2_with (first | ((with_reducible refine gate_callee (f := 35) rfl ?_); refine goesL_ (some 8) rfl rfl Tryz.func35 Qh0_ rfl #[.string a0] rfl Qb0_ ?_; (with_reducible refine (impl_IsBits.calls a0 true _ A4.out).mono ?_); rintro e w10 ⟨rfl, hb⟩; refine ⟨_, rfl, ?_⟩; have n0_ := Aside0.mk (below_step Qa0_ hb); clear HB; have HB := n0_; clear n0_; (try clear hb); (try clear hb2); (try clear hk); (try clear hi)) | (go_at_call 36; (with_reducible refine (impl_isVotes.calls a1 false _ A6.out).mono ?_); rintro e w' ⟨rfl, ⟨nd, rfl⟩⟩))
    go_meet
    case rel => exact ⟨_, (true), Qc0_, H', ⟨Qe1_⟩, ⟨Qa0_⟩⟩
  ·replace c5 := Bool.eq_false_iff.mpr c5
   subst c5
   rw [if_neg (show ¬ (false = true) by decide)] at H
   have H1 := H
   clear H
   have H := H1
   clear H1
   have H' := Aside0.mk H
   clear H
   go_wp2_with (first | ((with_reducible refine gate_callee (f := 35) rfl ?_); refine goesL_ (some 8) rfl rfl Tryz.func35 Qh0_ rfl #[.string a0] rfl Qb0_ ?_; (with_reducible refine (impl_IsBits.calls a0 false _ A4.out).mono ?_); rintro e w11 ⟨rfl, hb⟩; refine ⟨_, rfl, ?_⟩; have n0_ := Aside0.mk (below_step Qa0_ hb); clear HB; have HB := n0_; clear n0_; (try clear hb); (try clear hb2); (try clear hk); (try clear hi)))
   go_meet
   case rel => exact ⟨_, (true), Qc0_, H', ⟨Qe1_⟩, ⟨Qa0_⟩⟩
 case rest =>
  clear HC3
  try clear c1
  try clear p2
  try clear c3
  try clear c5
  try clear c7
  try clear c8
  try clear c8b0
  try clear c8b1
  try clear c11
  obtain ⟨kq, x21_2, rfl, HA, HJ2, HB⟩ := hcut
  cases kq with
  | zero => exact absurd HA.out (by simp [impl_VoteBits.j0])
  | succ kj2 =>
   have H := HA.out
   clear HA
   simp only [impl_VoteBits.j0] at H
   by_cases c12 : x21_2 = true
   ·subst c12
    rw [if_pos rfl] at H
    have H1 := H
    clear H
    have H := H1
    clear H1
    simp only [Option.some.injEq, Prod.mk.injEq] at H
    obtain ⟨rfl, rfl⟩ := H
    go_wp2
    go_ret2
    exact ⟨Qd0_, Qa0_⟩
   ·replace c12 := Bool.eq_false_iff.mpr c12
    subst c12
    rw [if_neg (show ¬ (false = true) by decide)] at H
    have H1 := H
    clear H
    have H := H1
    clear H1
    have H' := Aside0.mk H
    clear H
    go_wp2
    go_loopg [0, 6] kj2 (fun kq v0 v6 w' => ∃ (x0_2 : ByteArray) (x6_2 : ByteArray), v0 = .string x0_2 ∧ v6 = .string x6_2 ∧ Aside0 (impl_VoteBits.l0 kq x0_2 a1 x6_2 = some (r1, r2)) ∧ Aside0 (kq ≤ kj2) ∧ Aside0 (Below w.heap.size w w'))
    case atStart => exact ⟨(a0), ((⟨#[]⟩ : ByteArray)), Qc0_, Qc0_, H', ⟨Nat.le_refl _⟩, ⟨Qa0_⟩⟩
    case round =>
     clear H'
     try clear c1
     try clear p2
     try clear c3
     try clear c5
     try clear c7
     try clear c8
     try clear c8b0
     try clear c8b1
     try clear c11
     try clear c12
     try clear p2
     obtain ⟨x0_2, x6_2, rfl, rfl, HA, HK2, HB⟩ := hrel
     cases gk with
     | zero => exact absurd HA.out (by simp [impl_VoteBits.l0])
     | succ k2 =>
      have H := HA.out
      clear HA
      simp only [impl_VoteBits.l0] at H
      by_cases c13 : x0_2.toList = ([] : List UInt8)
      ·rw [if_pos c13] at H
       have c13b0 := beq_iff_eq.mpr c13
       have c13b1 := bne_eq_false_iff_eq.mpr c13
       clear c13
       simp only [Option.some.injEq, Prod.mk.injEq] at H
       obtain ⟨rfl, rfl⟩ := H
       go_wp2
       go_ret2
       exact ⟨Qd0_, Qa0_⟩
      ·rw [if_neg c13] at H
       have c13b0 := beq_eq_false_iff_ne.mpr c13
       have c13b1 := bne_iff_ne.mpr c13
       by_cases c14 : 0 ≤ a1
       ·rw [if_pos c14] at H
        have c14b0 := eq_true c14
        have c14b1 := decide_eq_true c14
        clear c14
        by_cases c15 : a1 ≤ (x0_2.size : Int)
        ·rw [if_pos c15] at H
         have c15b0 := eq_true c15
         have c15b1 := decide_eq_true c15
         clear c15
         replace H := Option.bind_eq_some_iff.mp H
         obtain ⟨t283, A160, H⟩ := H
         try dsimp only at H
         have A16 := Aside0.mk A160
         clear A160
         replace H := Option.bind_eq_some_iff.mp H
         obtain ⟨t284, A170, H⟩ := H
         try dsimp only at H
         have A17 := Aside0.mk A170
         clear A170
         by_cases c18 : x6_2.size + t284.size ≤ 9223372036854775807
         ·rw [if_pos c18] at H
          have c18b0 := eq_true c18
          have c18b1 := decide_eq_true c18
          try have c18b2 := eq_false (Nat.not_lt.2 c18)
          have c19b0 := eq_true (of_decide_eq_true Qe0_ : 0 ≤ a1)
          have c20b0 := eq_true (of_decide_eq_true Qe0_ : a1 ≤ (x0_2.size : Int))
          have H' := Aside0.mk H
          clear H
          go_wp2_with (first | ((with_reducible refine gate_callee (f := 77) rfl ?_); refine goesL_ (some 31) rfl rfl Tryz.func77 Qh0_ rfl #[.string (x0_2.extract 0 (a1 : Int).toNat), .string (⟨#[49]⟩ : ByteArray)] rfl Qb0_ ?_; (with_reducible refine (strings_Count.calls (x0_2.extract 0 (a1 : Int).toNat) (⟨#[49]⟩ : ByteArray) t283 _ A16.out).mono ?_); rintro e w' ⟨rfl, ⟨nd, rfl⟩⟩; refine ⟨_, rfl, ?_⟩) | ((with_reducible refine gate_callee (f := 78) rfl ?_); refine goesL_ (some 35) rfl rfl Tryz.func78 Qh0_ rfl #[.bool (decide ((wrap64 (2 * t283)) > a1))] rfl Qb0_ ?_; (with_reducible refine (impl_bitOf.calls (decide ((wrap64 (2 * t283)) > a1)) t284 _ A17.out).mono ?_); rintro e w' ⟨rfl, ⟨nd, rfl⟩⟩; refine ⟨_, rfl, ?_⟩))
          go_roundg k2
          case measure => have := HJ2.out; have := HK2.out; omega
          case rel => exact ⟨(x0_2.extract (a1 : Int).toNat x0_2.size), (x6_2 ++ t284), Qc0_, Qc0_, H', ⟨by have := HJ2.out; have := HK2.out; omega⟩, ⟨Qa0_⟩⟩
         ·rw [if_neg c18] at H
          exact absurd H (by simp)
        ·rw [if_neg c15] at H
         exact absurd H (by simp)
       ·rw [if_neg c14] at H
        exact absurd H (by simp)
def impl_edges.l0 : Nat → ByteArray → List Int → Int → Int → Option (List Int)
 | 0, _, _, _, _ => none
 | k + 1, x0, x3, x7, x8 => if x8 < x7 then (if x8 = 0 then (if x3.length < 17592186044416 then (impl_edges.l0 k x0 (x3 ++ [x8]) x7 (wrap64 (x8 + 1))) else (none)) else (if 0 ≤ x8 then (if x8 < (x0.size : Int) then (if 0 ≤ (wrap64 (x8 - 1)) then (if (wrap64 (x8 - 1)) < (x0.size : Int) then (if (bt x0 x8) = (bt x0 (wrap64 (x8 - 1))) then (impl_edges.l0 k x0 x3 x7 (wrap64 (x8 + 1))) else (if x3.length < 17592186044416 then (impl_edges.l0 k x0 (x3 ++ [x8]) x7 (wrap64 (x8 + 1))) else (none))) else (none)) else (none)) else (none)) else (none))) else (some x3)
def impl_edges.f (k : Nat) (a0 : ByteArray) : Option (List Int) := impl_edges.l0 k a0 (([] : List Int)) (a0.size : Int) 0
set_option maxHeartbeats 8000000 in
set_option maxRecDepth 100000 in
theorem impl_edges.calls (k : Nat) (a0 : ByteArray) (r : List Int) (w : World) (h : impl_edges.f k a0 = some r) :
 Calls Tryz.prog 118 #[.string a0] w fun e w' => ∃ v0_ : Value, e = .returned (v0_) ∧ Kd.R (Kd.int .i64) 2 w' w.heap.size (fun _ => True) v0_ r ∧ Below w.heap.size w w' := by
 have HB := Aside0.mk (Below.refl w.heap.size w)
 have H : (impl_edges.l0 k a0 (([] : List Int)) (a0.size : Int) 0) = some r := h
 clear h
 obtain ⟨y285, hy285⟩ : ∃ y_ : List Int, y_ = (([] : List Int)) := ⟨_, rfl⟩
 replace H : (impl_edges.l0 k a0 y285 (a0.size : Int) 0) = some r := by first | (rw [hy285]; with_reducible exact H) | (have H2_ := (Option.bind_some _ _).symm.trans H; rw [hy285]; with_reducible exact H2_) | (have H2_ := (Option.bind_some _ _).symm.trans H; with_reducible exact H2_) | with_reducible exact H | (rw [hy285]; exact H) | exact H
 have Ny285 := Aside0.mk hy285
 clear hy285
 have H' := Aside0.mk H
 clear H
 go_enter Tryz.func118, Tryz.ntmps118
 go_wp2_with (first | ((with_reducible refine gate_dst (N := 5) rfl ?_); refine Kd.R_lit (Kd.int .i64) _ 2 ?hg (N := 5) ?hd (xs := ([] : List Int)) (inner := []) (ok := fun _ => True) (okp := fun _ => True) ?hr ?hp (fun _ hk => hk) trivial (Below.refl _ _) (Nat.le_refl _) (by simp) ?_; (case hd => rfl); (case hg => rfl); (case hr => exact Qg0_); (case hp => exact (Reps.none _ _)); intro v286 w2 ho3 hb hg_ hnew_; clear hg_ hnew_; (first | rw [← Ny285.out] at ho3 | (simp only [Int.reduceToNat] at ho3; rw [← Ny285.out] at ho3)); have n0_ := Aside0.mk (Kd.R_lower ho3 (below_size Qa0_)); have n1_ := Aside0.mk (below_step Qa0_ hb); clear HB; have HO287 := n0_; have HB := n1_; clear n0_ n1_; clear hb ho3))
 repeat (go_quiet (first | ((with_reducible refine gate_dst (N := 5) rfl ?_); refine Kd.R_lit (Kd.int .i64) _ 2 ?hg (N := 5) ?hd (xs := ([] : List Int)) (inner := []) (ok := fun _ => True) (okp := fun _ => True) ?hr ?hp (fun _ hk => hk) trivial (Below.refl _ _) (Nat.le_refl _) (by simp) ?_; (case hd => rfl); (case hg => rfl); (case hr => exact Qg0_); (case hp => exact (Reps.none _ _)); intro v286 w2 ho3 hb hg_ hnew_; clear hg_ hnew_; (first | rw [← Ny285.out] at ho3 | (simp only [Int.reduceToNat] at ho3; rw [← Ny285.out] at ho3)); have n0_ := Aside0.mk (Kd.R_lower ho3 (below_size Qa0_)); have n1_ := Aside0.mk (below_step Qa0_ hb); clear HB; have HO287 := n0_; have HB := n1_; clear n0_ n1_; clear hb ho3)); try go_wp2_with (first | ((with_reducible refine gate_dst (N := 5) rfl ?_); refine Kd.R_lit (Kd.int .i64) _ 2 ?hg (N := 5) ?hd (xs := ([] : List Int)) (inner := []) (ok := fun _ => True) (okp := fun _ => True) ?hr ?hp (fun _ hk => hk) trivial (Below.refl _ _) (Nat.le_refl _) (by simp) ?_; (case hd => rfl); (case hg => rfl); (case hr => exact Qg0_); (case hp => exact (Reps.none _ _)); intro v286 w2 ho3 hb hg_ hnew_; clear hg_ hnew_; (first | rw [← Ny285.out] at ho3 | (simp only [Int.reduceToNat] at ho3; rw [← Ny285.out] at ho3)); have n0_ := Aside0.mk (Kd.R_lower ho3 (below_size Qa0_)); have n1_ := Aside0.mk (below_step Qa0_ hb); clear HB; have HO287 := n0_; have HB := n1_; clear n0_ n1_; clear hb ho3)))
 go_loopg [3, 8] k (fun kq v3 v8 w' => ∃ (x3_1 : List Int) (x8_1 : Int), v8 = .int .i64 x8_1 ∧ Aside0 (impl_edges.l0 kq a0 x3_1 (a0.size : Int) x8_1 = some r) ∧ Aside0 (kq ≤ k) ∧ Aside0 (Kd.R (Kd.int .i64) 2 w' w.heap.size (fun _ => True) v3 x3_1) ∧ Aside0 (Below w.heap.size w w'))
 case atStart => exact ⟨(y285), (0), Qc0_, H', ⟨Nat.le_refl _⟩, ⟨Qr_ HO287.out⟩, ⟨Qa0_⟩⟩
 case round =>
  clear H'
  try clear c1
  try clear p2
  obtain ⟨x3_1, x8_1, rfl, HA, HK1, HO_3, HB⟩ := hrel
  cases gk with
  | zero => exact absurd HA.out (by simp [impl_edges.l0])
  | succ k1 =>
   have H := HA.out
   clear HA
   simp only [impl_edges.l0] at H
   by_cases c4 : x8_1 < (a0.size : Int)
   ·rw [if_pos c4] at H
    have c4b0 := decide_eq_true c4
    clear c4
    by_cases c5 : x8_1 = 0
    ·rw [if_pos c5] at H
     have c5b0 := beq_iff_eq.mpr c5
     have c5b1 := bne_eq_false_iff_eq.mpr c5
     clear c5
     by_cases c6 : x3_1.length < 17592186044416
     ·rw [if_pos c6] at H
      have LMc6 := Aside0.mk c6
      clear c6
      obtain ⟨y288, hy288⟩ : ∃ y_ : List Int, y_ = (x3_1 ++ [x8_1]) := ⟨_, rfl⟩
      replace H : (impl_edges.l0 k1 a0 y288 (a0.size : Int) (wrap64 (x8_1 + 1))) = some r := by first | (rw [hy288]; with_reducible exact H) | (have H2_ := (Option.bind_some _ _).symm.trans H; rw [hy288]; with_reducible exact H2_) | (have H2_ := (Option.bind_some _ _).symm.trans H; with_reducible exact H2_) | with_reducible exact H | (rw [hy288]; exact H) | exact H
      have Ny288 := Aside0.mk hy288
      clear hy288
      have H' := Aside0.mk H
      clear H
      go_wp2_with (first | ((with_reducible refine gate_builtin (b := .append) (xs := #[.tmp 23, .tmp 25]) rfl ?_); at_builtin; refine Kd.R_append (Kd.int .i64) (w0 := w) w.heap.size rfl (.tmp 23) (.tmp 25) 29 2 (.int .i64 0) 8 rfl Tryz.underlying29 info2 rfl (by decide) (by omega) u3 x3_1 x8_1 [.int .i64 x8_1] (fun _ => True) (fun _ => False) rfl rfl ?aP (fun _ hk => hk.elim) ?aF ?aO ?aB ?aS ?aL ?_; (case aP => exact rfl); (case aB => exact Qa0_); (case aF => exact (fun _ _ => trivial)); (case aO => exact (Qr_ HO_3.out)); (case aS => exact (below_size Qa0_)); (case aL => have := LMc6.out; omega); intro v289 w7 ho hb hg hat; rw [← Ny288.out] at ho; have n0_ := Aside0.mk (hb); have n1_ := Aside0.mk (ho); clear HB; clear HO_3; have HB := n0_; have HO290 := n1_; clear n0_ n1_; clear ho hb hg hat))
      repeat (go_quiet (first | ((with_reducible refine gate_builtin (b := .append) (xs := #[.tmp 23, .tmp 25]) rfl ?_); at_builtin; refine Kd.R_append (Kd.int .i64) (w0 := w) w.heap.size rfl (.tmp 23) (.tmp 25) 29 2 (.int .i64 0) 8 rfl Tryz.underlying29 info2 rfl (by decide) (by omega) u3 x3_1 x8_1 [.int .i64 x8_1] (fun _ => True) (fun _ => False) rfl rfl ?aP (fun _ hk => hk.elim) ?aF ?aO ?aB ?aS ?aL ?_; (case aP => exact rfl); (case aB => exact Qa0_); (case aF => exact (fun _ _ => trivial)); (case aO => exact (Qr_ HO_3.out)); (case aS => exact (below_size Qa0_)); (case aL => have := LMc6.out; omega); intro v289 w7 ho hb hg hat; rw [← Ny288.out] at ho; have n0_ := Aside0.mk (hb); have n1_ := Aside0.mk (ho); clear HB; clear HO_3; have HB := n0_; have HO290 := n1_; clear n0_ n1_; clear ho hb hg hat)); try go_wp2_with (first | ((with_reducible refine gate_builtin (b := .append) (xs := #[.tmp 23, .tmp 25]) rfl ?_); at_builtin; refine Kd.R_append (Kd.int .i64) (w0 := w) w.heap.size rfl (.tmp 23) (.tmp 25) 29 2 (.int .i64 0) 8 rfl Tryz.underlying29 info2 rfl (by decide) (by omega) u3 x3_1 x8_1 [.int .i64 x8_1] (fun _ => True) (fun _ => False) rfl rfl ?aP (fun _ hk => hk.elim) ?aF ?aO ?aB ?aS ?aL ?_; (case aP => exact rfl); (case aB => exact Qa0_); (case aF => exact (fun _ _ => trivial)); (case aO => exact (Qr_ HO_3.out)); (case aS => exact (below_size Qa0_)); (case aL => have := LMc6.out; omega); intro v289 w7 ho hb hg hat; rw [← Ny288.out] at ho; have n0_ := Aside0.mk (hb); have n1_ := Aside0.mk (ho); clear HB; clear HO_3; have HB := n0_; have HO290 := n1_; clear n0_ n1_; clear ho hb hg hat)))
      go_roundg k1
      case measure => have := HK1.out; omega
      case rel => exact ⟨(y288), (wrap64 (x8_1 + 1)), Qc0_, H', ⟨Qs0_⟩, ⟨Qr_ HO290.out⟩, ⟨Qa0_⟩⟩
     ·rw [if_neg c6] at H
      exact absurd H (by simp)
    ·rw [if_neg c5] at H
     have c5b0 := beq_eq_false_iff_ne.mpr c5
     have c5b1 := bne_iff_ne.mpr c5
     by_cases c8 : 0 ≤ x8_1
     ·rw [if_pos c8] at H
      have c8b0 := decide_eq_true c8
      clear c8
      by_cases c9 : x8_1 < (a0.size : Int)
      ·rw [if_pos c9] at H
       have c9b0 := decide_eq_true c9
       clear c9
       obtain ⟨ji11, hji11⟩ : ∃ j_ : Int, (wrap64 (x8_1 - 1)) = j_ := ⟨_, rfl⟩
       replace H : (if 0 ≤ (ji11) then (if (ji11) < (a0.size : Int) then (if (bt a0 x8_1) = (bt a0 (ji11)) then (impl_edges.l0 k1 a0 x3_1 (a0.size : Int) (wrap64 (x8_1 + 1))) else (if x3_1.length < 17592186044416 then (impl_edges.l0 k1 a0 (x3_1 ++ [x8_1]) (a0.size : Int) (wrap64 (x8_1 + 1))) else (none))) else (none)) else (none)) = some r := by first | (rw [hji11] at H; exact H) | (simp only [hji11] at H ⊢; exact H)
       have hji11w : (IntKind.i64.wrap (x8_1 - 1)) = ji11 := (i64_w _).trans hji11
       (try rw [hji11])
       by_cases c12 : 0 ≤ (ji11)
       ·rw [if_pos c12] at H
        have c12b0 := decide_eq_true c12
        clear c12
        by_cases c13 : (ji11) < (a0.size : Int)
        ·rw [if_pos c13] at H
         have c13b0 := decide_eq_true c13
         clear c13
         by_cases c15 : (bt a0 x8_1) = (bt a0 (ji11))
         ·rw [if_pos c15] at H
          have c15b0 := beq_iff_eq.mpr c15
          have c15b1 := bne_eq_false_iff_eq.mpr c15
          clear c15
          have H' := Aside0.mk H
          clear H
          have p10 : 0 ≤ (x8_1 : Int) := of_decide_eq_true Qe0_
          have q10 : x8_1 < (a0.size : Int) := of_decide_eq_true Qe0_
          have hx10 := bt_at a0 x8_1
          replace p10 := eq_true p10
          replace q10 := eq_true q10
          have p14 : 0 ≤ ((ji11) : Int) := of_decide_eq_true Qe0_
          have q14 : (ji11) < (a0.size : Int) := of_decide_eq_true Qe0_
          have hx14 := bt_at a0 (ji11)
          replace p14 := eq_true p14
          replace q14 := eq_true q14
          go_wp2
          repeat (go_quiet (fail); try go_wp2)
          go_roundg k1
          case measure => have := HK1.out; omega
          case rel => exact ⟨(x3_1), (wrap64 (x8_1 + 1)), Qc0_, H', ⟨Qs0_⟩, ⟨Qr_ HO_3.out⟩, ⟨Qa0_⟩⟩
         ·rw [if_neg c15] at H
          have c15b0 := beq_eq_false_iff_ne.mpr c15
          have c15b1 := bne_iff_ne.mpr c15
          by_cases c16 : x3_1.length < 17592186044416
          ·rw [if_pos c16] at H
           have LMc16 := Aside0.mk c16
           clear c16
           obtain ⟨y291, hy291⟩ : ∃ y_ : List Int, y_ = (x3_1 ++ [x8_1]) := ⟨_, rfl⟩
           replace H : (impl_edges.l0 k1 a0 y291 (a0.size : Int) (wrap64 (x8_1 + 1))) = some r := by first | (rw [hy291]; with_reducible exact H) | (have H2_ := (Option.bind_some _ _).symm.trans H; rw [hy291]; with_reducible exact H2_) | (have H2_ := (Option.bind_some _ _).symm.trans H; with_reducible exact H2_) | with_reducible exact H | (rw [hy291]; exact H) | exact H
           have Ny291 := Aside0.mk hy291
           clear hy291
           have H' := Aside0.mk H
           clear H
           have p10 : 0 ≤ (x8_1 : Int) := of_decide_eq_true Qe0_
           have q10 : x8_1 < (a0.size : Int) := of_decide_eq_true Qe0_
           have hx10 := bt_at a0 x8_1
           replace p10 := eq_true p10
           replace q10 := eq_true q10
           have p14 : 0 ≤ ((ji11) : Int) := of_decide_eq_true Qe0_
           have q14 : (ji11) < (a0.size : Int) := of_decide_eq_true Qe0_
           have hx14 := bt_at a0 (ji11)
           replace p14 := eq_true p14
           replace q14 := eq_true q14
           go_wp2_with (first | ((with_reducible refine gate_builtin (b := .append) (xs := #[.tmp 23, .tmp 25]) rfl ?_); at_builtin; refine Kd.R_append (Kd.int .i64) (w0 := w) w.heap.size rfl (.tmp 23) (.tmp 25) 29 2 (.int .i64 0) 8 rfl Tryz.underlying29 info2 rfl (by decide) (by omega) u3 x3_1 x8_1 [.int .i64 x8_1] (fun _ => True) (fun _ => False) rfl rfl ?aP (fun _ hk => hk.elim) ?aF ?aO ?aB ?aS ?aL ?_; (case aP => exact rfl); (case aB => exact Qa0_); (case aF => exact (fun _ _ => trivial)); (case aO => exact (Qr_ HO_3.out)); (case aS => exact (below_size Qa0_)); (case aL => have := LMc16.out; omega); intro v292 w17 ho hb hg hat; rw [← Ny291.out] at ho; have n0_ := Aside0.mk (hb); have n1_ := Aside0.mk (ho); clear HB; clear HO_3; have HB := n0_; have HO293 := n1_; clear n0_ n1_; clear ho hb hg hat))
           repeat (go_quiet (first | ((with_reducible refine gate_builtin (b := .append) (xs := #[.tmp 23, .tmp 25]) rfl ?_); at_builtin; refine Kd.R_append (Kd.int .i64) (w0 := w) w.heap.size rfl (.tmp 23) (.tmp 25) 29 2 (.int .i64 0) 8 rfl Tryz.underlying29 info2 rfl (by decide) (by omega) u3 x3_1 x8_1 [.int .i64 x8_1] (fun _ => True) (fun _ => False) rfl rfl ?aP (fun _ hk => hk.elim) ?aF ?aO ?aB ?aS ?aL ?_; (case aP => exact rfl); (case aB => exact Qa0_); (case aF => exact (fun _ _ => trivial)); (case aO => exact (Qr_ HO_3.out)); (case aS => exact (below_size Qa0_)); (case aL => have := LMc16.out; omega); intro v292 w17 ho hb hg hat; rw [← Ny291.out] at ho; have n0_ := Aside0.mk (hb); have n1_ := Aside0.mk (ho); clear HB; clear HO_3; have HB := n0_; have HO293 := n1_; clear n0_ n1_; clear ho hb hg hat)); try go_wp2_with (first | ((with_reducible refine gate_builtin (b := .append) (xs := #[.tmp 23, .tmp 25]) rfl ?_); at_builtin; refine Kd.R_append (Kd.int .i64) (w0 := w) w.heap.size rfl (.tmp 23) (.tmp 25) 29 2 (.int .i64 0) 8 rfl Tryz.underlying29 info2 rfl (by decide) (by omega) u3 x3_1 x8_1 [.int .i64 x8_1] (fun _ => True) (fun _ => False) rfl rfl ?aP (fun _ hk => hk.elim) ?aF ?aO ?aB ?aS ?aL ?_; (case aP => exact rfl); (case aB => exact Qa0_); (case aF => exact (fun _ _ => trivial)); (case aO => exact (Qr_ HO_3.out)); (case aS => exact (below_size Qa0_)); (case aL => have := LMc16.out; omega); intro v292 w17 ho hb hg hat; rw [← Ny291.out] at ho; have n0_ := Aside0.mk (hb); have n1_ := Aside0.mk (ho); clear HB; clear HO_3; have HB := n0_; have HO293 := n1_; clear n0_ n1_; clear ho hb hg hat)))
           go_roundg k1
           case measure => have := HK1.out; omega
           case rel => exact ⟨(y291), (wrap64 (x8_1 + 1)), Qc0_, H', ⟨Qs0_⟩, ⟨Qr_ HO293.out⟩, ⟨Qa0_⟩⟩
          ·rw [if_neg c16] at H
           exact absurd H (by simp)
        ·rw [if_neg c13] at H
         exact absurd H (by simp)
       ·rw [if_neg c12] at H
        exact absurd H (by simp)
      ·rw [if_neg c9] at H
       exact absurd H (by simp)
     ·rw [if_neg c8] at H
      exact absurd H (by simp)
   ·rw [if_neg c4] at H
    have c4b0 := decide_eq_false c4
    clear c4
    obtain rfl := Option.some.inj H
    go_wp2
    repeat (go_quiet (fail); try go_wp2)
    go_ret
    exact ⟨_, Qd0_, Qr_ HO_3.out, Qa0_⟩
def impl_areTicks.f (a0 : Int) (a1 : Int) : Option (Bool) := (impl_within.f a0 2 1000).bind fun t294 => (if t294 = true then ((impl_within.f a1 2 1000).bind fun t295 => (some t295)) else (some false))
set_option maxHeartbeats 8000000 in
set_option maxRecDepth 100000 in
theorem impl_areTicks.calls (a0 : Int) (a1 : Int) (r : Bool) (w : World) (h : impl_areTicks.f a0 a1 = some r) :
 Calls Tryz.prog 132 #[.int .i64 a0, .int .i64 a1] w fun e w' => e = .returned (.bool r) ∧ Drawn0 w w' := by
 have H : ((impl_within.f a0 2 1000).bind fun t294 => (if t294 = true then ((impl_within.f a1 2 1000).bind fun t295 => (some t295)) else (some false))) = some r := h
 clear h
 replace H := Option.bind_eq_some_iff.mp H
 obtain ⟨t294, A30, H⟩ := H
 try dsimp only at H
 have A3 := Aside0.mk A30
 clear A30
 by_cases c4 : t294 = true
 ·subst c4
  rw [if_pos rfl] at H
  have H1 := H
  clear H
  have H := H1
  clear H1
  replace H := Option.bind_eq_some_iff.mp H
  obtain ⟨t295, A50, H⟩ := H
  try dsimp only at H
  have A5 := Aside0.mk A50
  clear A50
  obtain rfl := Option.some.inj H
  go_enter Tryz.func132, Tryz.ntmps132
  go_wp2_with (first | ((with_reducible refine gate_callee (f := 52) rfl ?_); refine goesL_ (some 6) rfl rfl Tryz.func52 Qh0_ rfl #[.int .i64 a0, .int .i64 2, .int .i64 1000] rfl Qb0_ ?_; (with_reducible refine (impl_within.calls a0 2 1000 true _ A3.out).mono ?_); rintro e w' ⟨rfl, ⟨nd, rfl⟩⟩; refine ⟨_, rfl, ?_⟩) | (go_at_call 52; (with_reducible refine (impl_within.calls a1 2 1000 t295 _ A5.out).mono ?_); rintro e w' ⟨rfl, ⟨nd, rfl⟩⟩))
  go_ret
  exact ⟨Qc0_, Qf0_⟩
 ·replace c4 := Bool.eq_false_iff.mpr c4
  subst c4
  rw [if_neg (show ¬ (false = true) by decide)] at H
  have H1 := H
  clear H
  have H := H1
  clear H1
  obtain rfl := Option.some.inj H
  go_enter Tryz.func132, Tryz.ntmps132
  go_wp2_with (first | ((with_reducible refine gate_callee (f := 52) rfl ?_); refine goesL_ (some 6) rfl rfl Tryz.func52 Qh0_ rfl #[.int .i64 a0, .int .i64 2, .int .i64 1000] rfl Qb0_ ?_; (with_reducible refine (impl_within.calls a0 2 1000 false _ A3.out).mono ?_); rintro e w' ⟨rfl, ⟨nd, rfl⟩⟩; refine ⟨_, rfl, ?_⟩))
  go_ret
  exact ⟨Qc0_, Qf0_⟩
def impl_isIncreasing.l0 : Nat → List Int → Int → Int → Option (Bool)
 | 0, _, _, _ => none
 | k + 1, x0, x5, x6 => if x6 < x5 then (if x6 > 0 then (if 0 ≤ x6 then (if x6 < (x0.length : Int) then (if 0 ≤ (wrap64 (x6 - 1)) then (if (wrap64 (x6 - 1)) < (x0.length : Int) then (if (rd x0 x6) ≤ (rd x0 (wrap64 (x6 - 1))) then (some false) else (impl_isIncreasing.l0 k x0 x5 (wrap64 (x6 + 1)))) else (none)) else (none)) else (none)) else (none)) else (impl_isIncreasing.l0 k x0 x5 (wrap64 (x6 + 1)))) else (some true)
def impl_isIncreasing.f (k : Nat) (l0 : List Int) : Option (Bool) := impl_isIncreasing.l0 k l0 (l0.length : Int) 0
set_option maxHeartbeats 8000000 in
set_option maxRecDepth 100000 in
theorem impl_isIncreasing.calls (k : Nat) (A0 : Option Addr) (c0 : Nat) (l0 : List Int) (r : Bool) (w : World) (hr0 : Kd.C (Kd.int .i64) w A0 l0.length l0) (hc0 : l0.length ≤ c0) (h : impl_isIncreasing.f k l0 = some r) :
 Calls Tryz.prog 133 #[.slice A0 l0.length c0] w fun e w' => e = .returned (.bool r) ∧ Drawn0 w w' := by
 have HR0 := Aside0.mk hr0
 have HC0 := Aside0.mk hc0
 clear hr0 hc0
 have H : (impl_isIncreasing.l0 k l0 (l0.length : Int) 0) = some r := h
 clear h
 have H' := Aside0.mk H
 clear H
 go_enter Tryz.func133, Tryz.ntmps133
 go_wp2
 repeat (go_quiet (fail); try go_wp2)
 go_loopg [6] k (fun kq v6 w' => ∃ (x6_1 : Int), v6 = .int .i64 x6_1 ∧ Aside0 (impl_isIncreasing.l0 kq l0 (l0.length : Int) x6_1 = some r) ∧ Aside0 (kq ≤ k) ∧ Drawn0 w w')
 case atStart => exact ⟨(0), Qc0_, H', ⟨Nat.le_refl _⟩, Qf0_⟩
 case round =>
  clear H'
  try clear c1
  obtain ⟨x6_1, rfl, HA, HK1, ⟨m1, rfl⟩⟩ := hrel
  cases gk with
  | zero => exact absurd HA.out (by simp [impl_isIncreasing.l0])
  | succ k1 =>
   have H := HA.out
   clear HA
   simp only [impl_isIncreasing.l0] at H
   by_cases c2 : x6_1 < (l0.length : Int)
   ·rw [if_pos c2] at H
    have c2b0 := decide_eq_true c2
    clear c2
    by_cases c3 : x6_1 > 0
    ·rw [if_pos c3] at H
     have c3b0 := decide_eq_true c3
     clear c3
     by_cases c4 : 0 ≤ x6_1
     ·rw [if_pos c4] at H
      have c4b0 := decide_eq_true c4
      clear c4
      by_cases c5 : x6_1 < (l0.length : Int)
      ·rw [if_pos c5] at H
       have c5b0 := decide_eq_true c5
       clear c5
       obtain ⟨ji6, hji6⟩ : ∃ j_ : Int, (wrap64 (x6_1 - 1)) = j_ := ⟨_, rfl⟩
       replace H : (if 0 ≤ (ji6) then (if (ji6) < (l0.length : Int) then (if (rd l0 x6_1) ≤ (rd l0 (ji6)) then (some false) else (impl_isIncreasing.l0 k1 l0 (l0.length : Int) (wrap64 (x6_1 + 1)))) else (none)) else (none)) = some r := by first | (rw [hji6] at H; exact H) | (simp only [hji6] at H ⊢; exact H)
       have hji6w : (IntKind.i64.wrap (x6_1 - 1)) = ji6 := (i64_w _).trans hji6
       (try rw [hji6])
       by_cases c7 : 0 ≤ (ji6)
       ·rw [if_pos c7] at H
        have c7b0 := decide_eq_true c7
        clear c7
        by_cases c8 : (ji6) < (l0.length : Int)
        ·rw [if_pos c8] at H
         have c8b0 := decide_eq_true c8
         clear c8
         by_cases c9 : (rd l0 x6_1) ≤ (rd l0 (ji6))
         ·rw [if_pos c9] at H
          have c9b0 := decide_eq_true c9
          clear c9
          obtain rfl := Option.some.inj H
          have p296 : 0 ≤ (x6_1 : Int) := of_decide_eq_true Qe0_
          have q296 : x6_1 < (l0.length : Int) := of_decide_eq_true Qe0_
          obtain ⟨ad296, e296, hx296_0⟩ := Kd.at_int HR0.out x6_1 p296 q296
          cases e296
          replace p296 := eq_true p296
          replace q296 := eq_true q296
          have p297 : 0 ≤ ((ji6) : Int) := of_decide_eq_true Qe0_
          have q297 : (ji6) < (l0.length : Int) := of_decide_eq_true Qe0_
          obtain ⟨ad297, e297, hx297_0⟩ := Kd.at_int HR0.out (ji6) p297 q297
          obtain rfl : ad296 = ad297 := (by injection e297)
          replace p297 := eq_true p297
          replace q297 := eq_true q297
          go_wp2
          repeat (go_quiet (fail); try go_wp2)
          go_ret
          exact ⟨by first | rfl | (simp; done) | (simp only [← hji6] <;> (first | rfl | simp)) | (simp [*]; done), Qf0_⟩
         ·rw [if_neg c9] at H
          have c9b0 := decide_eq_false c9
          clear c9
          have H' := Aside0.mk H
          clear H
          have p296 : 0 ≤ (x6_1 : Int) := of_decide_eq_true Qe0_
          have q296 : x6_1 < (l0.length : Int) := of_decide_eq_true Qe0_
          obtain ⟨ad296, e296, hx296_0⟩ := Kd.at_int HR0.out x6_1 p296 q296
          cases e296
          replace p296 := eq_true p296
          replace q296 := eq_true q296
          have p297 : 0 ≤ ((ji6) : Int) := of_decide_eq_true Qe0_
          have q297 : (ji6) < (l0.length : Int) := of_decide_eq_true Qe0_
          obtain ⟨ad297, e297, hx297_0⟩ := Kd.at_int HR0.out (ji6) p297 q297
          obtain rfl : ad296 = ad297 := (by injection e297)
          replace p297 := eq_true p297
          replace q297 := eq_true q297
          go_wp2
          repeat (go_quiet (fail); try go_wp2)
          go_roundg k1
          case measure => have := HK1.out; omega
          case rel => exact ⟨(wrap64 (x6_1 + 1)), Qc0_, H', ⟨Qs0_⟩, Qf0_⟩
        ·rw [if_neg c8] at H
         exact absurd H (by simp)
       ·rw [if_neg c7] at H
        exact absurd H (by simp)
      ·rw [if_neg c5] at H
       exact absurd H (by simp)
     ·rw [if_neg c4] at H
      exact absurd H (by simp)
    ·rw [if_neg c3] at H
     have c3b0 := decide_eq_false c3
     clear c3
     have H' := Aside0.mk H
     clear H
     go_wp2
     repeat (go_quiet (fail); try go_wp2)
     go_roundg k1
     case measure => have := HK1.out; omega
     case rel => exact ⟨(wrap64 (x6_1 + 1)), Qc0_, H', ⟨Qs0_⟩, Qf0_⟩
   ·rw [if_neg c2] at H
    have c2b0 := decide_eq_false c2
    clear c2
    obtain rfl := Option.some.inj H
    go_wp2
    repeat (go_quiet (fail); try go_wp2)
    go_ret
    exact ⟨Qc0_, Qf0_⟩
end Go.Proofs.YtdnjebnmianogaaGreatDoor.QFnTop
