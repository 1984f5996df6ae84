/- Made small by wip/pack.py: lemmas and contracts that the law's row leans on. -/
import Derived.Test.YtbjmbfjbjkhhdaaGreatDoorZFnTopOfAll27
import Derived.Test.YtbjmbfjbjkhhdaaGreatDoorZFnTopOfAll29
import Derived.Test.YtbjmbfjbjkhhdaaGreatDoorZFnTopOfAll31
import Derived.Test.YtbjmbfjbjkhhdaaGreatDoorZFnTopOfAll34
import Derived.Test.YtbjmbfjbjkhhdaaGreatDoorZFnTopOfAll35
import Derived.Test.YtbjmbfjbjkhhdaaGreatDoorZFnTopOfAll39
namespace Go.Proofs.YtbjmbfjbjkhhdaaGreatDoor.QFnTopOfAll
open Go.RowKit Go.Proofs.YtbjmbfjbjkhhdaaGreatDoorW.PrintWords Go.Proofs.YtbjmbfjbjkhhdaaGreatDoorW.PrintLast Go.Proofs.YtbjmbfjbjkhhdaaGreatDoorW.PrintMore
attribute [local go_sem] max2_int min2_int max_two min_two max_three min_three max_four min_four
set_option linter.unusedVariables false
set_option linter.unusedSimpArgs false
def impl_made.f (k : Nat) (a0 : ByteArray) (a1_0 : ByteArray) (a1_1 : Int) (a1_2 : ByteArray) (l1_3 : List Int) (l1_4 : List Int) : Option (ByteArray × ByteArray × Bool) := if a0.toList = ([98, 108, 111, 99, 107, 115] : List UInt8) then (if 0 < (l1_3.length : Int) then (if 1 < (l1_3.length : Int) then ((impl_MakeBlockCode.f k (rd l1_3 0) (rd l1_3 1)).bind fun bt450 => (if 2 < (l1_3.length : Int) then ((impl_EncodeBlocks.f k bt450.1 bt450.2.1 bt450.2.2.1 bt450.2.2.2.1 (rd l1_3 2) l1_4).bind fun bt461 => (if bt450.2.2.2.2 = true then ((impl_Decimal.f bt461.2.1).bind fun t464 => (some (bt461.1, t464, bt461.2.2))) else ((impl_Decimal.f bt461.2.1).bind fun t465 => (some (bt461.1, t465, false))))) else (none))) else (none)) else (none)) else (if a0.toList = ([108, 97, 121] : List UInt8) then (if 0 < (l1_3.length : Int) then (if 1 < (l1_3.length : Int) then ((impl_BlockInterleave.f k (rd l1_3 0) (rd l1_3 1) a1_2).bind fun bt468 => (some (bt468.1, (⟨#[111, 107]⟩ : ByteArray), bt468.2))) else (none)) else (none)) else (if a0.toList = ([117, 110, 108, 97, 121] : List UInt8) then (if 0 < (l1_3.length : Int) then (if 1 < (l1_3.length : Int) then ((impl_BlockDeinterleave.f k (rd l1_3 0) (rd l1_3 1) a1_2).bind fun bt472 => (some (bt472.1, (⟨#[111, 107]⟩ : ByteArray), bt472.2))) else (none)) else (none)) else (if a0.toList = ([99, 104, 101, 99, 107] : List UInt8) then (if 0 < (l1_3.length : Int) then ((impl_AddCheck.f k (rd l1_3 0) a1_2).bind fun bt475 => (some (bt475.1, (⟨#[111, 107]⟩ : ByteArray), bt475.2))) else (none)) else (if a0.toList = ([114, 101, 112, 101, 97, 116] : List UInt8) then (if 0 < (l1_3.length : Int) then ((impl_RepeatBits.f k a1_2 (rd l1_3 0)).bind fun bt478 => (some (bt478.1, (⟨#[111, 107]⟩ : ByteArray), bt478.2))) else (none)) else (if a0.toList = ([118, 111, 116, 101] : List UInt8) then (if 0 < (l1_3.length : Int) then ((impl_VoteBits.f k a1_2 (rd l1_3 0)).bind fun bt481 => (some (bt481.1, (⟨#[111, 107]⟩ : ByteArray), bt481.2))) else (none)) else (if a0.toList = ([99, 108, 111, 99, 107] : List UInt8) then (if 0 < (l1_3.length : Int) then (if 1 < (l1_3.length : Int) then ((impl_edges.f k a1_2).bind fun t485 => (if 0 ≤ (t485.length : Int) then (if ((t485.length : Int) : Int).toNat ≤ 35184372088832 then ((impl_ReceiveBits.f k a1_2 (rd l1_3 0) (rd l1_3 1) (List.replicate ((t485.length : Int) : Int).toNat 0)).bind fun bt491 => (some (bt491.1, (⟨#[111, 107]⟩ : ByteArray), bt491.2))) else (none)) else (none))) else (none)) else (none)) else (some (a1_2, (⟨#[111, 107]⟩ : ByteArray), true))))))))
theorem impl_made.want {P : Program} {o : Oper} {a : Act} {W : World} {K : Act → World → Prop} {Q : Exit → Act → World → Prop} {t : TypeId} {x y : Operand} {n : Int} (ho : o.op = .makeSlice t x y) (hx : a.eval x = .int .i64 n) (hy : a.eval y = .int .i64 n) (hw : Region.wanted o (yielded #[] a.tmps) = true) (h : if Region.wanted o (yielded #[] a.tmps) = true then Oper.wp P o a W K Q else K (a.put o.dst undef) W) : Oper.upon P o a K Q ((Sem.run P (Instr.makeSlice t (.int .i64 n) (.int .i64 n)) W).andThen fun a w' => Result.ok (Next.value a) w') := by
 rw [if_pos hw] at h
 unfold Oper.wp at h
 simpa [execOp, ho, hx, hy] using h
set_option maxHeartbeats 8000000 in
set_option maxRecDepth 100000 in
theorem impl_made.calls (k : Nat) (wd : ByteArray) (fr : ByteArray) (p : Int) (bi : ByteArray) (A3 : Option Addr) (c3 : Nat) (n : List Int) (A4 : Option Addr) (c4 : Nat) (li : List Int) (r1 : ByteArray) (r2 : ByteArray) (r3 : Bool) (w : World) (hr3 : Kd.C (Kd.int .i64) w A3 n.length n) (hc3 : n.length ≤ c3) (hr4 : Kd.C (Kd.int .i64) w A4 li.length li) (hc4 : li.length ≤ c4) (hT : LibW w) (h : impl_made.f k wd fr p bi n li = some (r1, r2, r3)) :
 Calls Tryz.prog 122 #[.string wd, .agg #[.string fr, .int .i64 p, .string bi, .slice A3 n.length c3, .slice A4 li.length c4]] w fun e w' => e = .returned (.tuple #[.string r1, .string r2, .bool r3]) ∧ Below w.heap.size w w' := by
 have hu67 := Tryz.underlying105
 have hu98 := Tryz.underlying25
 have HT := Aside0.mk hT
 have HB := Aside0.mk (Below.refl w.heap.size w)
 have HR3 := Aside0.mk hr3
 have HR4 := Aside0.mk hr4
 have HC4 := Aside0.mk hc4
 clear hT hr3 hc3 hr4 hc4
 unfold impl_made.f at h
 by_cases d0 : wd.toList = ([98, 108, 111, 99, 107, 115] : List UInt8)
 ·rw [if_pos d0] at h
  have d0b : (wd.toList == ([98, 108, 111, 99, 107, 115] : List UInt8)) = true := beq_iff_eq.mpr d0
  clear d0
  by_cases e0 : 0 < (n.length : Int)
  rotate_left
  ·rw [if_neg e0] at h; cases h
  rw [if_pos e0] at h
  by_cases e1 : 1 < (n.length : Int)
  rotate_left
  ·rw [if_neg e1] at h; cases h
  rw [if_pos e1] at h
  obtain ⟨⟨m0, m1, l2, l3, ok1⟩, B1, h⟩ := Option.bind_eq_some_iff.mp h
  by_cases e2 : 2 < (n.length : Int)
  rotate_left
  ·rw [if_neg e2] at h; cases h
  rw [if_pos e2] at h
  obtain ⟨⟨t1, st, ok2⟩, B2, h⟩ := Option.bind_eq_some_iff.mp h
  have hd : ∃ tx, impl_Decimal.f st = some tx ∧ r1 = t1 ∧ r2 = tx ∧ r3 = (ok1 && ok2) := by
   cases ok1
   ·rw [if_neg (show ¬((m0, m1, l2, l3, false) : Int × Int × List ByteArray × List ByteArray × Bool).2.2.2.2 = true from fun x => nomatch x)] at h
    obtain ⟨tx, b3, h⟩ := Option.bind_eq_some_iff.mp h
    simp only [Option.some.injEq, Prod.mk.injEq] at h
    exact ⟨tx, b3, h.1.symm, h.2.1.symm, h.2.2.symm⟩
   ·rw [if_pos (show ((m0, m1, l2, l3, true) : Int × Int × List ByteArray × List ByteArray × Bool).2.2.2.2 = true from rfl)] at h
    obtain ⟨tx, b3, h⟩ := Option.bind_eq_some_iff.mp h
    simp only [Option.some.injEq, Prod.mk.injEq] at h
    exact ⟨tx, b3, h.1.symm, h.2.1.symm, by rw [Bool.true_and]; exact h.2.2.symm⟩
  clear h
  obtain ⟨tx, B3, rfl, rfl, rfl⟩ := hd
  have B1_ := Aside0.mk B1
  have B2_ := Aside0.mk (show impl_EncodeBlocks.f k m0 m1 l2 l3 (rd n 2) li = some (r1, st, ok2) from B2)
  have B3_ := Aside0.mk B3
  clear B1 B2 B3
  obtain ⟨ad, ed, hx0⟩ := Kd.at_int HR3.out 0 (by decide) e0
  cases ed
  have HXZ := Aside0.mk (show w.cell? ad = some (.int .i64 (rd n 0)) by simpa [Addr.add] using hx0)
  clear hx0
  obtain ⟨ad1, ed1, hx1⟩ := Kd.at_int HR3.out 1 (by decide) e1
  rw [← Option.some.inj ed1] at hx1
  simp [Addr.add] at hx1
  have HX1 := Aside0.mk hx1
  clear hx1 ed1
  obtain ⟨ad2, ed2, hx2⟩ := Kd.at_int HR3.out 2 (by decide) e2
  rw [← Option.some.inj ed2] at hx2
  simp [Addr.add] at hx2
  have HX2 := Aside0.mk hx2
  clear hx2 ed2
  have p0 := eq_true e0
  have q0 : (0 < n.length) = True := eq_true (by omega)
  have p1 := eq_true e1
  have q1 : (1 < n.length) = True := eq_true (by omega)
  have p2 := eq_true e2
  have q2 : (2 < n.length) = True := eq_true (by omega)
  clear e0 e1 e2
  go_enter Tryz.func122, Tryz.ntmps122
  go_wp2_with (first | ((with_reducible refine gate_dst (N := 3) rfl ?_); (try (refine gate_guard (by rfl) ?_; dsimp only)); refine box_event ?hg (N := 3) ?hd (cs := #[.string fr, .int .i64 p, .string bi, .slice (some ad) n.length c3, .slice A4 li.length c4]) (t := 105) ?hr ?_; (case hd => rfl); (case hg => rfl); (case hr => exact Qh0_); intro ga hgga wg hbox hb; have n0_ := Aside0.mk (below_step Qa0_ hb); have n1_ := Aside0.mk (hbox); clear HB; have HB := n0_; have BKga := n1_; clear n0_ n1_; clear hb hbox hgga; have hczga2 : wg.cell? ⟨ga, 2, none⟩ = some (.string bi) := (blk_cell BKga.out 2).trans rfl))
  have hs0_ : wg.cell? ⟨ga, 2, none⟩ = some (.string bi) := (blk_cell BKga.out 2).trans rfl
  have hs1_ : wg.cell? ⟨ga, 3, none⟩ = some (.slice (some ad) n.length c3) := (blk_cell BKga.out 3).trans rfl
  have hs2_ := pw_cell_below HB.out HXZ.out
  have hs3_ := pw_cell_below HB.out HX1.out
  have HSof := Aside0.mk (fun (w' : World) (hb : Below wg.heap.size wg w') => And.intro (pw_cell_below hb hs0_) (And.intro (pw_cell_below hb hs1_) (And.intro (pw_cell_below hb hs2_) (pw_cell_below hb hs3_))))
  go_cut [10, 11] (fun v10 v11 wx => ∃ (g : Nat) (v2 v3 : Value), v10 = .pointer (some ⟨g, 0, none⟩) ∧ v11 = .bool ok1 ∧ Aside0 (dcI w wx ga #[.string fr, .int .i64 p, .string bi, .slice (some ad) n.length c3, .slice A4 li.length c4] g m0 m1 v2 v3 l2 l3))
  case first =>
   go_region_held3 (fun w' => w'.cell? ⟨ga, 2, none⟩ = some (.string bi) ∧ w'.cell? ⟨ga, 3, none⟩ = some (.slice (some ad) n.length c3) ∧ w'.cell? ad = some (.int .i64 (rd n 0)) ∧ w'.cell? ⟨ad.block, ad.off + 1, none⟩ = some (.int .i64 (rd n 1))) (first | exact HSof.out _ Qo1_) (first | (go_at_call 4; (with_reducible refine (impl_MakeBlockCode.calls k (rd n 0) (rd n 1) m0 m1 l2 l3 ok1 _ B1_.out).mono ?_); rintro e w2 ⟨v2, v3, rfl, ho2, ho3, hb⟩; obtain ⟨A2, c2, e2_⟩ := Kd.R_slice ho2; subst e2_; obtain ⟨A5, c5, e3_⟩ := Kd.R_slice ho3; subst e3_; have HW2 := Aside0.mk (show Below w.heap.size w w2 from below_step (below_step HB.out Qn0_) hb); have HS2 := Aside0.mk (show wg.heap.size ≤ w2.heap.size from Nat.le_trans (show Below wg.heap.size wg _ from Qn0_).size hb.size); have HR2 := Aside0.mk (Kd.R_lower (Kd.R_mono ho2 (fun _ _ => trivial)) (below_step HB.out Qn0_).size); have HR5 := Aside0.mk (Kd.R_lower (Kd.R_mono ho3 (fun _ _ => trivial)) (below_step HB.out Qn0_).size); have HA2 := Aside0.mk (show w2.heap[ga]? = some (.cells #[.string fr, .int .i64 p, .string bi, .slice (some ad) n.length c3, .slice A4 li.length c4] 105 (0, 0)) from (hb.block ga (Nat.lt_of_lt_of_le (dc_lt BKga.out) (show Below wg.heap.size wg _ from Qn0_).size)).trans (((show Below wg.heap.size wg _ from Qn0_).block ga (dc_lt BKga.out)).trans BKga.out)); (first | (have hbk_ : w2.heap[wg.heap.size]? = some (.cells #[.int .i64 0, .int .i64 0, .slice none 0 0, .slice none 0 0] 25 (0, 0)) := (hb.block wg.heap.size (dc_lt (heap_alloc_new _ _))).trans (heap_alloc_new _ _); have HBG := Aside0.mk hbk_; have hz0 := (blk_cell hbk_ 0).trans rfl; have hz1 := (blk_cell hbk_ 1).trans rfl; have hz2 := (blk_cell hbk_ 2).trans rfl; have hz3 := (blk_cell hbk_ 3).trans rfl; have hf0 := blk_frozen hbk_ 0; have hf1 := blk_frozen hbk_ 1; have hf2 := blk_frozen hbk_ 2; have hf3 := blk_frozen hbk_ 3; clear hbk_) | skip); have HWG := Aside0.mk (below_step (show Below wg.heap.size wg _ from Qn0_) hb); clear ho2 ho3 hb))
   all_goals (go_wp2; go_meet; exact ⟨_, _, _, rfl, rfl, ⟨by first | exact (dcI.made HW2.out HA2.out HBG.out HB.out.size HR2.out HR5.out rfl).below Qn0_ | exact (show dcI w (w2.alloc _) ga _ _ _ _ _ _ _ _ from ⟨below_step HW2.out (below_alloc (Below.refl w2.heap.size w2) _), ((below_alloc (Below.refl w2.heap.size w2) _).block ga (dc_lt HA2.out)).trans HA2.out, heap_alloc_new _ _, dc_row HR2.out (fun k_ c_ h_ => (below_alloc (Below.refl w2.heap.size w2) _).block k_ (dc_lt h_)), dc_row HR5.out (fun k_ c_ h_ => (below_alloc (Below.refl w2.heap.size w2) _).block k_ (dc_lt h_))⟩)⟩⟩)
  case rest =>
   obtain ⟨g, v2, v3, rfl, rfl, HD⟩ := hcut
   obtain ⟨A2, c2, e2, hl2, hC2⟩ := Kd.R_reads HD.out.2.2.2.1
   subst e2
   obtain ⟨A5, c5, e3, hl3, hC3⟩ := Kd.R_reads HD.out.2.2.2.2
   subst e3
   have HC2 := Aside0.mk hC2
   have HC5 := Aside0.mk hC3
   have HL2 := Aside0.mk hl2
   have HL5 := Aside0.mk hl3
   clear hC2 hC3 hl2 hl3
   have hd0 : wc.cell? ⟨g, 0, none⟩ = some (.int .i64 m0) := (blk_cell HD.out.2.2.1 0).trans rfl
   have hd1 : wc.cell? ⟨g, 1, none⟩ = some (.int .i64 m1) := (blk_cell HD.out.2.2.1 1).trans rfl
   have hd2 : wc.cell? ⟨g, 2, none⟩ = some (.slice A2 l2.length c2) := (blk_cell HD.out.2.2.1 2).trans rfl
   have hd3 : wc.cell? ⟨g, 3, none⟩ = some (.slice A5 l3.length c5) := (blk_cell HD.out.2.2.1 3).trans rfl
   have he3 : wc.cell? ⟨ga, 3, none⟩ = some (.slice (some ad) n.length c3) := (blk_cell HD.out.2.1 3).trans rfl
   have he4 : wc.cell? ⟨ga, 4, none⟩ = some (.slice A4 li.length c4) := (blk_cell HD.out.2.1 4).trans rfl
   have hn2 := pw_cell_below HD.out.1 HX2.out
   have HSf2 := Aside0.mk (fun (w' : World) (hb : Below wc.heap.size wc w') => And.intro (pw_cell_below hb hd0) (And.intro (pw_cell_below hb hd1) (And.intro (pw_cell_below hb hd2) (And.intro (pw_cell_below hb hd3) (And.intro (pw_cell_below hb he3) (And.intro (pw_cell_below hb he4) (pw_cell_below hb hn2)))))))
   go_wp2
   go_region_held3 (fun w' => w'.cell? ⟨g, 0, none⟩ = some (.int .i64 m0) ∧ w'.cell? ⟨g, 1, none⟩ = some (.int .i64 m1) ∧ w'.cell? ⟨g, 2, none⟩ = some (.slice A2 l2.length c2) ∧ w'.cell? ⟨g, 3, none⟩ = some (.slice A5 l3.length c5) ∧ w'.cell? ⟨ga, 3, none⟩ = some (.slice (some ad) n.length c3) ∧ w'.cell? ⟨ga, 4, none⟩ = some (.slice A4 li.length c4) ∧ w'.cell? ⟨ad.block, ad.off + 2, none⟩ = some (.int .i64 (rd n 2))) (first | exact HSf2.out _ (by repeat (first | exact Below.refl _ _ | exact HWE.out | apply below_drew1 | apply pw_below_drewN))) (first | (go_at_call 6; (with_reducible refine (impl_EncodeBlocks.calls k m0 m1 A2 c2 l2 A5 c5 l3 (rd n 2) A4 c4 li r1 st ok2 _ ?s1 ?s2 ?s3 ?s4 ?s5 ?s6 B2_.out).mono ?_); (case s1 => exact Kd.C_below HC2.out Qj0_); (case s2 => exact HL2.out); (case s3 => exact Kd.C_below HC5.out Qj0_); (case s4 => exact HL5.out); (case s5 => exact Kd.C_below HR4.out (below_step HD.out.1 Qj0_)); (case s6 => exact HC4.out); rintro e w5 ⟨rfl, hb⟩; have HWE := Aside0.mk (below_step (show Below wc.heap.size wc _ from Qj0_) hb); have HE := Aside0.mk (below_step (below_step HD.out.1 Qj0_) hb); clear hb))
   all_goals (go_wp2_with (first | (go_at_call 9; (with_reducible refine (impl_Decimal.calls st r2 _ ?u1 B3_.out).mono ?_); (case u1 => exact tabBelow HT.out HE.out); rintro e w6 ⟨rfl, hb⟩; have HE6 := Aside0.mk (below_step HE.out hb); clear hb)))
   all_goals (go_ret3; exact ⟨Qc0_, HE6.out⟩)
 rw [if_neg d0] at h
 have d0b : (wd.toList == ([98, 108, 111, 99, 107, 115] : List UInt8)) = false := beq_eq_false_iff_ne.mpr d0
 clear d0
 by_cases d1 : wd.toList = ([108, 97, 121] : List UInt8)
 ·rw [if_pos d1] at h
  have d1b : (wd.toList == ([108, 97, 121] : List UInt8)) = true := beq_iff_eq.mpr d1
  clear d1
  by_cases e0 : 0 < (n.length : Int)
  rotate_left
  ·rw [if_neg e0] at h; cases h
  rw [if_pos e0] at h
  by_cases e1 : 1 < (n.length : Int)
  rotate_left
  ·rw [if_neg e1] at h; cases h
  rw [if_pos e1] at h
  obtain ⟨⟨t1, t2⟩, B1, h⟩ := Option.bind_eq_some_iff.mp h
  simp only [Option.some.injEq, Prod.mk.injEq] at h
  obtain ⟨rfl, rfl, rfl⟩ := h
  have B1_ := Aside0.mk B1
  clear B1
  obtain ⟨ad, ed, hx0⟩ := Kd.at_int HR3.out 0 (by decide) e0
  cases ed
  have HXZ := Aside0.mk (show w.cell? ad = some (.int .i64 (rd n 0)) by simpa [Addr.add] using hx0)
  clear hx0
  obtain ⟨ad1, ed1, hx1⟩ := Kd.at_int HR3.out 1 (by decide) e1
  rw [← Option.some.inj ed1] at hx1
  simp [Addr.add] at hx1
  have HX1 := Aside0.mk hx1
  clear hx1 ed1
  have p0 := eq_true e0
  have q0 : (0 < n.length) = True := eq_true (by omega)
  have p1 := eq_true e1
  have q1 : (1 < n.length) = True := eq_true (by omega)
  clear e0 e1
  go_enter Tryz.func122, Tryz.ntmps122
  go_wp2_with (first | ((with_reducible refine gate_dst (N := 3) rfl ?_); (try (refine gate_guard (by rfl) ?_; dsimp only)); refine box_event ?hg (N := 3) ?hd (cs := #[.string fr, .int .i64 p, .string bi, .slice (some ad) n.length c3, .slice A4 li.length c4]) (t := 105) ?hr ?_; (case hd => rfl); (case hg => rfl); (case hr => exact Qh0_); intro ga hgga wg hbox hb; have n0_ := Aside0.mk (below_step Qa0_ hb); have n1_ := Aside0.mk (hbox); clear HB; have HB := n0_; have BKga := n1_; clear n0_ n1_; clear hb hbox hgga; have hczga2 : wg.cell? ⟨ga, 2, none⟩ = some (.string bi) := (blk_cell BKga.out 2).trans rfl))
  have hs0_ : wg.cell? ⟨ga, 2, none⟩ = some (.string bi) := (blk_cell BKga.out 2).trans rfl
  have hs1_ : wg.cell? ⟨ga, 3, none⟩ = some (.slice (some ad) n.length c3) := (blk_cell BKga.out 3).trans rfl
  have hs2_ := pw_cell_below HB.out HXZ.out
  have hs3_ := pw_cell_below HB.out HX1.out
  have HSof := Aside0.mk (fun (w' : World) (hb : Below wg.heap.size wg w') => And.intro (pw_cell_below hb hs0_) (And.intro (pw_cell_below hb hs1_) (And.intro (pw_cell_below hb hs2_) (pw_cell_below hb hs3_))))
  go_region_held3 (fun w' => w'.cell? ⟨ga, 2, none⟩ = some (.string bi) ∧ w'.cell? ⟨ga, 3, none⟩ = some (.slice (some ad) n.length c3) ∧ w'.cell? ad = some (.int .i64 (rd n 0)) ∧ w'.cell? ⟨ad.block, ad.off + 1, none⟩ = some (.int .i64 (rd n 1))) (first | exact HSof.out _ Qg1_) (first | (go_at_call 10; (with_reducible refine (impl_BlockInterleave.calls k (rd n 0) (rd n 1) bi t1 t2 _ B1_.out).mono ?_); rintro e w5 ⟨rfl, hb⟩; have HWE := Aside0.mk (below_step (show Below wg.heap.size wg _ from Qj0_) hb); have HE := Aside0.mk (below_step (below_step HB.out Qj0_) hb); clear hb))
  all_goals (go_wp2; go_ret3; exact ⟨rfl, HE.out⟩)
 rw [if_neg d1] at h
 have d1b : (wd.toList == ([108, 97, 121] : List UInt8)) = false := beq_eq_false_iff_ne.mpr d1
 clear d1
 by_cases d2 : wd.toList = ([117, 110, 108, 97, 121] : List UInt8)
 ·rw [if_pos d2] at h
  have d2b : (wd.toList == ([117, 110, 108, 97, 121] : List UInt8)) = true := beq_iff_eq.mpr d2
  clear d2
  by_cases e0 : 0 < (n.length : Int)
  rotate_left
  ·rw [if_neg e0] at h; cases h
  rw [if_pos e0] at h
  by_cases e1 : 1 < (n.length : Int)
  rotate_left
  ·rw [if_neg e1] at h; cases h
  rw [if_pos e1] at h
  obtain ⟨⟨t1, t2⟩, B1, h⟩ := Option.bind_eq_some_iff.mp h
  simp only [Option.some.injEq, Prod.mk.injEq] at h
  obtain ⟨rfl, rfl, rfl⟩ := h
  have B1_ := Aside0.mk B1
  clear B1
  obtain ⟨ad, ed, hx0⟩ := Kd.at_int HR3.out 0 (by decide) e0
  cases ed
  have HXZ := Aside0.mk (show w.cell? ad = some (.int .i64 (rd n 0)) by simpa [Addr.add] using hx0)
  clear hx0
  obtain ⟨ad1, ed1, hx1⟩ := Kd.at_int HR3.out 1 (by decide) e1
  rw [← Option.some.inj ed1] at hx1
  simp [Addr.add] at hx1
  have HX1 := Aside0.mk hx1
  clear hx1 ed1
  have p0 := eq_true e0
  have q0 : (0 < n.length) = True := eq_true (by omega)
  have p1 := eq_true e1
  have q1 : (1 < n.length) = True := eq_true (by omega)
  clear e0 e1
  go_enter Tryz.func122, Tryz.ntmps122
  go_wp2_with (first | ((with_reducible refine gate_dst (N := 3) rfl ?_); (try (refine gate_guard (by rfl) ?_; dsimp only)); refine box_event ?hg (N := 3) ?hd (cs := #[.string fr, .int .i64 p, .string bi, .slice (some ad) n.length c3, .slice A4 li.length c4]) (t := 105) ?hr ?_; (case hd => rfl); (case hg => rfl); (case hr => exact Qh0_); intro ga hgga wg hbox hb; have n0_ := Aside0.mk (below_step Qa0_ hb); have n1_ := Aside0.mk (hbox); clear HB; have HB := n0_; have BKga := n1_; clear n0_ n1_; clear hb hbox hgga; have hczga2 : wg.cell? ⟨ga, 2, none⟩ = some (.string bi) := (blk_cell BKga.out 2).trans rfl))
  have hs0_ : wg.cell? ⟨ga, 2, none⟩ = some (.string bi) := (blk_cell BKga.out 2).trans rfl
  have hs1_ : wg.cell? ⟨ga, 3, none⟩ = some (.slice (some ad) n.length c3) := (blk_cell BKga.out 3).trans rfl
  have hs2_ := pw_cell_below HB.out HXZ.out
  have hs3_ := pw_cell_below HB.out HX1.out
  have HSof := Aside0.mk (fun (w' : World) (hb : Below wg.heap.size wg w') => And.intro (pw_cell_below hb hs0_) (And.intro (pw_cell_below hb hs1_) (And.intro (pw_cell_below hb hs2_) (pw_cell_below hb hs3_))))
  go_region_held3 (fun w' => w'.cell? ⟨ga, 2, none⟩ = some (.string bi) ∧ w'.cell? ⟨ga, 3, none⟩ = some (.slice (some ad) n.length c3) ∧ w'.cell? ad = some (.int .i64 (rd n 0)) ∧ w'.cell? ⟨ad.block, ad.off + 1, none⟩ = some (.int .i64 (rd n 1))) (first | exact HSof.out _ Qg1_) (first | (go_at_call 12; (with_reducible refine (impl_BlockDeinterleave.calls k (rd n 0) (rd n 1) bi t1 t2 _ B1_.out).mono ?_); rintro e w5 ⟨rfl, hb⟩; have HWE := Aside0.mk (below_step (show Below wg.heap.size wg _ from Qj0_) hb); have HE := Aside0.mk (below_step (below_step HB.out Qj0_) hb); clear hb))
  all_goals (go_wp2; go_ret3; exact ⟨rfl, HE.out⟩)
 rw [if_neg d2] at h
 have d2b : (wd.toList == ([117, 110, 108, 97, 121] : List UInt8)) = false := beq_eq_false_iff_ne.mpr d2
 clear d2
 by_cases d3 : wd.toList = ([99, 104, 101, 99, 107] : List UInt8)
 ·rw [if_pos d3] at h
  have d3b : (wd.toList == ([99, 104, 101, 99, 107] : List UInt8)) = true := beq_iff_eq.mpr d3
  clear d3
  by_cases e0 : 0 < (n.length : Int)
  rotate_left
  ·rw [if_neg e0] at h; cases h
  rw [if_pos e0] at h
  obtain ⟨⟨t1, t2⟩, B1, h⟩ := Option.bind_eq_some_iff.mp h
  simp only [Option.some.injEq, Prod.mk.injEq] at h
  obtain ⟨rfl, rfl, rfl⟩ := h
  have B1_ := Aside0.mk B1
  clear B1
  obtain ⟨ad, ed, hx0⟩ := Kd.at_int HR3.out 0 (by decide) e0
  cases ed
  have HXZ := Aside0.mk (show w.cell? ad = some (.int .i64 (rd n 0)) by simpa [Addr.add] using hx0)
  clear hx0
  have p0 := eq_true e0
  have q0 : (0 < n.length) = True := eq_true (by omega)
  clear e0
  go_enter Tryz.func122, Tryz.ntmps122
  go_wp2_with (first | ((with_reducible refine gate_dst (N := 3) rfl ?_); (try (refine gate_guard (by rfl) ?_; dsimp only)); refine box_event ?hg (N := 3) ?hd (cs := #[.string fr, .int .i64 p, .string bi, .slice (some ad) n.length c3, .slice A4 li.length c4]) (t := 105) ?hr ?_; (case hd => rfl); (case hg => rfl); (case hr => exact Qh0_); intro ga hgga wg hbox hb; have n0_ := Aside0.mk (below_step Qa0_ hb); have n1_ := Aside0.mk (hbox); clear HB; have HB := n0_; have BKga := n1_; clear n0_ n1_; clear hb hbox hgga; have hczga2 : wg.cell? ⟨ga, 2, none⟩ = some (.string bi) := (blk_cell BKga.out 2).trans rfl))
  have hs0_ : wg.cell? ⟨ga, 2, none⟩ = some (.string bi) := (blk_cell BKga.out 2).trans rfl
  have hs1_ : wg.cell? ⟨ga, 3, none⟩ = some (.slice (some ad) n.length c3) := (blk_cell BKga.out 3).trans rfl
  have hs2_ := pw_cell_below HB.out HXZ.out
  have HSof := Aside0.mk (fun (w' : World) (hb : Below wg.heap.size wg w') => And.intro (pw_cell_below hb hs0_) (And.intro (pw_cell_below hb hs1_) (pw_cell_below hb hs2_)))
  go_region_held3 (fun w' => w'.cell? ⟨ga, 2, none⟩ = some (.string bi) ∧ w'.cell? ⟨ga, 3, none⟩ = some (.slice (some ad) n.length c3) ∧ w'.cell? ad = some (.int .i64 (rd n 0))) (first | exact HSof.out _ Qg1_) (first | (go_at_call 14; (with_reducible refine (impl_AddCheck.calls k (rd n 0) bi t1 t2 _ B1_.out).mono ?_); rintro e w5 ⟨rfl, hb⟩; have HWE := Aside0.mk (below_step (show Below wg.heap.size wg _ from Qj0_) hb); have HE := Aside0.mk (below_step (below_step HB.out Qj0_) hb); clear hb))
  all_goals (go_wp2; go_ret3; exact ⟨rfl, HE.out⟩)
 rw [if_neg d3] at h
 have d3b : (wd.toList == ([99, 104, 101, 99, 107] : List UInt8)) = false := beq_eq_false_iff_ne.mpr d3
 clear d3
 by_cases d4 : wd.toList = ([114, 101, 112, 101, 97, 116] : List UInt8)
 ·rw [if_pos d4] at h
  have d4b : (wd.toList == ([114, 101, 112, 101, 97, 116] : List UInt8)) = true := beq_iff_eq.mpr d4
  clear d4
  by_cases e0 : 0 < (n.length : Int)
  rotate_left
  ·rw [if_neg e0] at h; cases h
  rw [if_pos e0] at h
  obtain ⟨⟨t1, t2⟩, B1, h⟩ := Option.bind_eq_some_iff.mp h
  simp only [Option.some.injEq, Prod.mk.injEq] at h
  obtain ⟨rfl, rfl, rfl⟩ := h
  have B1_ := Aside0.mk B1
  clear B1
  obtain ⟨ad, ed, hx0⟩ := Kd.at_int HR3.out 0 (by decide) e0
  cases ed
  have HXZ := Aside0.mk (show w.cell? ad = some (.int .i64 (rd n 0)) by simpa [Addr.add] using hx0)
  clear hx0
  have p0 := eq_true e0
  have q0 : (0 < n.length) = True := eq_true (by omega)
  clear e0
  go_enter Tryz.func122, Tryz.ntmps122
  go_wp2_with (first | ((with_reducible refine gate_dst (N := 3) rfl ?_); (try (refine gate_guard (by rfl) ?_; dsimp only)); refine box_event ?hg (N := 3) ?hd (cs := #[.string fr, .int .i64 p, .string bi, .slice (some ad) n.length c3, .slice A4 li.length c4]) (t := 105) ?hr ?_; (case hd => rfl); (case hg => rfl); (case hr => exact Qh0_); intro ga hgga wg hbox hb; have n0_ := Aside0.mk (below_step Qa0_ hb); have n1_ := Aside0.mk (hbox); clear HB; have HB := n0_; have BKga := n1_; clear n0_ n1_; clear hb hbox hgga; have hczga2 : wg.cell? ⟨ga, 2, none⟩ = some (.string bi) := (blk_cell BKga.out 2).trans rfl))
  have hs0_ : wg.cell? ⟨ga, 2, none⟩ = some (.string bi) := (blk_cell BKga.out 2).trans rfl
  have hs1_ : wg.cell? ⟨ga, 3, none⟩ = some (.slice (some ad) n.length c3) := (blk_cell BKga.out 3).trans rfl
  have hs2_ := pw_cell_below HB.out HXZ.out
  have HSof := Aside0.mk (fun (w' : World) (hb : Below wg.heap.size wg w') => And.intro (pw_cell_below hb hs0_) (And.intro (pw_cell_below hb hs1_) (pw_cell_below hb hs2_)))
  go_region_held3 (fun w' => w'.cell? ⟨ga, 2, none⟩ = some (.string bi) ∧ w'.cell? ⟨ga, 3, none⟩ = some (.slice (some ad) n.length c3) ∧ w'.cell? ad = some (.int .i64 (rd n 0))) (first | exact HSof.out _ Qg1_) (first | (go_at_call 13; (with_reducible refine (impl_RepeatBits.calls k bi (rd n 0) t1 t2 _ B1_.out).mono ?_); rintro e w5 ⟨rfl, hb⟩; have HWE := Aside0.mk (below_step (show Below wg.heap.size wg _ from Qj0_) hb); have HE := Aside0.mk (below_step (below_step HB.out Qj0_) hb); clear hb))
  all_goals (go_wp2; go_ret3; exact ⟨rfl, HE.out⟩)
 rw [if_neg d4] at h
 have d4b : (wd.toList == ([114, 101, 112, 101, 97, 116] : List UInt8)) = false := beq_eq_false_iff_ne.mpr d4
 clear d4
 by_cases d5 : wd.toList = ([118, 111, 116, 101] : List UInt8)
 ·rw [if_pos d5] at h
  have d5b : (wd.toList == ([118, 111, 116, 101] : List UInt8)) = true := beq_iff_eq.mpr d5
  clear d5
  by_cases e0 : 0 < (n.length : Int)
  rotate_left
  ·rw [if_neg e0] at h; cases h
  rw [if_pos e0] at h
  obtain ⟨⟨t1, t2⟩, B1, h⟩ := Option.bind_eq_some_iff.mp h
  simp only [Option.some.injEq, Prod.mk.injEq] at h
  obtain ⟨rfl, rfl, rfl⟩ := h
  have B1_ := Aside0.mk B1
  clear B1
  obtain ⟨ad, ed, hx0⟩ := Kd.at_int HR3.out 0 (by decide) e0
  cases ed
  have HXZ := Aside0.mk (show w.cell? ad = some (.int .i64 (rd n 0)) by simpa [Addr.add] using hx0)
  clear hx0
  have p0 := eq_true e0
  have q0 : (0 < n.length) = True := eq_true (by omega)
  clear e0
  go_enter Tryz.func122, Tryz.ntmps122
  go_wp2_with (first | ((with_reducible refine gate_dst (N := 3) rfl ?_); (try (refine gate_guard (by rfl) ?_; dsimp only)); refine box_event ?hg (N := 3) ?hd (cs := #[.string fr, .int .i64 p, .string bi, .slice (some ad) n.length c3, .slice A4 li.length c4]) (t := 105) ?hr ?_; (case hd => rfl); (case hg => rfl); (case hr => exact Qh0_); intro ga hgga wg hbox hb; have n0_ := Aside0.mk (below_step Qa0_ hb); have n1_ := Aside0.mk (hbox); clear HB; have HB := n0_; have BKga := n1_; clear n0_ n1_; clear hb hbox hgga; have hczga2 : wg.cell? ⟨ga, 2, none⟩ = some (.string bi) := (blk_cell BKga.out 2).trans rfl))
  have hs0_ : wg.cell? ⟨ga, 2, none⟩ = some (.string bi) := (blk_cell BKga.out 2).trans rfl
  have hs1_ : wg.cell? ⟨ga, 3, none⟩ = some (.slice (some ad) n.length c3) := (blk_cell BKga.out 3).trans rfl
  have hs2_ := pw_cell_below HB.out HXZ.out
  have HSof := Aside0.mk (fun (w' : World) (hb : Below wg.heap.size wg w') => And.intro (pw_cell_below hb hs0_) (And.intro (pw_cell_below hb hs1_) (pw_cell_below hb hs2_)))
  go_region_held3 (fun w' => w'.cell? ⟨ga, 2, none⟩ = some (.string bi) ∧ w'.cell? ⟨ga, 3, none⟩ = some (.slice (some ad) n.length c3) ∧ w'.cell? ad = some (.int .i64 (rd n 0))) (first | exact HSof.out _ Qg1_) (first | (go_at_call 156; (with_reducible refine (impl_VoteBits.calls k bi (rd n 0) t1 t2 _ B1_.out).mono ?_); rintro e w5 ⟨rfl, hb⟩; have HWE := Aside0.mk (below_step (show Below wg.heap.size wg _ from Qj0_) hb); have HE := Aside0.mk (below_step (below_step HB.out Qj0_) hb); clear hb))
  all_goals (go_wp2; go_ret3; exact ⟨rfl, HE.out⟩)
 rw [if_neg d5] at h
 have d5b : (wd.toList == ([118, 111, 116, 101] : List UInt8)) = false := beq_eq_false_iff_ne.mpr d5
 clear d5
 by_cases d6 : wd.toList = ([99, 108, 111, 99, 107] : List UInt8)
 ·rw [if_pos d6] at h
  have d6b : (wd.toList == ([99, 108, 111, 99, 107] : List UInt8)) = true := beq_iff_eq.mpr d6
  clear d6
  by_cases e0 : 0 < (n.length : Int)
  rotate_left
  ·rw [if_neg e0] at h; cases h
  rw [if_pos e0] at h
  by_cases e1 : 1 < (n.length : Int)
  rotate_left
  ·rw [if_neg e1] at h; cases h
  rw [if_pos e1] at h
  obtain ⟨xs, B1, h⟩ := Option.bind_eq_some_iff.mp h
  by_cases e2 : 0 ≤ (xs.length : Int)
  rotate_left
  ·rw [if_neg e2] at h; cases h
  rw [if_pos e2] at h
  by_cases e3 : ((xs.length : Int) : Int).toNat ≤ 35184372088832
  rotate_left
  ·rw [if_neg e3] at h; cases h
  rw [if_pos e3] at h
  obtain ⟨⟨t1, t2⟩, B2, h⟩ := Option.bind_eq_some_iff.mp h
  simp only [Option.some.injEq, Prod.mk.injEq] at h
  obtain ⟨rfl, rfl, rfl⟩ := h
  obtain ⟨ys, hys⟩ : ∃ y : List Int, y = List.replicate ((xs.length : Int) : Int).toNat 0 := ⟨_, rfl⟩
  rw [← hys] at B2
  have NY := Aside0.mk hys
  clear hys
  have B1_ := Aside0.mk B1
  have B2_ := Aside0.mk B2
  have E3 := Aside0.mk e3
  clear B1 B2 e2 e3
  obtain ⟨ad, ed, hx0⟩ := Kd.at_int HR3.out 0 (by decide) e0
  cases ed
  have HXZ := Aside0.mk (show w.cell? ad = some (.int .i64 (rd n 0)) by simpa [Addr.add] using hx0)
  clear hx0
  obtain ⟨ad1, ed1, hx1⟩ := Kd.at_int HR3.out 1 (by decide) e1
  rw [← Option.some.inj ed1] at hx1
  simp [Addr.add] at hx1
  have HX1 := Aside0.mk hx1
  clear hx1 ed1
  have p0 := eq_true e0
  have q0 : (0 < n.length) = True := eq_true (by omega)
  have p1 := eq_true e1
  have q1 : (1 < n.length) = True := eq_true (by omega)
  clear e0 e1
  go_enter Tryz.func122, Tryz.ntmps122
  go_wp2_with (first | ((with_reducible refine gate_dst (N := 3) rfl ?_); (try (refine gate_guard (by rfl) ?_; dsimp only)); refine box_event ?hg (N := 3) ?hd (cs := #[.string fr, .int .i64 p, .string bi, .slice (some ad) n.length c3, .slice A4 li.length c4]) (t := 105) ?hr ?_; (case hd => rfl); (case hg => rfl); (case hr => exact Qh0_); intro ga hgga wg hbox hb; have n0_ := Aside0.mk (below_step Qa0_ hb); have n1_ := Aside0.mk (hbox); clear HB; have HB := n0_; have BKga := n1_; clear n0_ n1_; clear hb hbox hgga; have hczga2 : wg.cell? ⟨ga, 2, none⟩ = some (.string bi) := (blk_cell BKga.out 2).trans rfl))
  have hs0_ : wg.cell? ⟨ga, 2, none⟩ = some (.string bi) := (blk_cell BKga.out 2).trans rfl
  have hs1_ : wg.cell? ⟨ga, 3, none⟩ = some (.slice (some ad) n.length c3) := (blk_cell BKga.out 3).trans rfl
  have hs2_ := pw_cell_below HB.out HXZ.out
  have hs3_ := pw_cell_below HB.out HX1.out
  have HSof := Aside0.mk (fun (w' : World) (hb : Below wg.heap.size wg w') => And.intro (pw_cell_below hb hs0_) (And.intro (pw_cell_below hb hs1_) (And.intro (pw_cell_below hb hs2_) (pw_cell_below hb hs3_))))
  go_region_held3 (fun w' => w'.cell? ⟨ga, 2, none⟩ = some (.string bi) ∧ w'.cell? ⟨ga, 3, none⟩ = some (.slice (some ad) n.length c3) ∧ w'.cell? ad = some (.int .i64 (rd n 0)) ∧ w'.cell? ⟨ad.block, ad.off + 1, none⟩ = some (.int .i64 (rd n 1))) (first | exact HSof.out _ (by repeat (first | exact Below.refl _ _ | exact HWH.out | exact HWF.out | exact HWE.out | apply below_drew1 | apply pw_below_drewN | apply below_alloc))) (first | (go_at_call 158; (with_reducible refine (impl_edges.calls k bi xs _ B1_.out).mono ?_); rintro e w5 ⟨v5, rfl, ho, hb⟩; obtain ⟨A5, c5, e5_⟩ := Kd.R_slice ho; subst e5_; have HWE := Aside0.mk (below_step (show Below wg.heap.size wg _ from Qj0_) hb); have HE := Aside0.mk (below_step (below_step HB.out Qj0_) hb); clear hb ho) | (refine impl_made.want (x := Operand.tmp 135) (y := Operand.tmp 135) rfl rfl rfl (by rfl) (Kd.R_make_step (ops := #[]) (Kd.int .i64) _ 2 (by rfl) (N := 136) rfl 22 _ _ rfl (xs.length : Int) rfl rfl Tryz.underlying22 (.int .i64 0) 8 info2 rfl (by decide) (by omega) 0 (ok := fun _ => True) (okp := fun _ => True) rfl (fun _ hk => hk) trivial (by omega) (by have := E3.out; omega) (Below.refl _ _) (Nat.le_refl _) ?_); intro v6 w6 ho hb hg_ hnew_; rw [← NY.out] at ho; obtain ⟨A6, c6, e6_⟩ := Kd.R_slice ho; subst e6_; have HWF := Aside0.mk (below_step (show Below wg.heap.size wg _ from by repeat (first | exact HWE.out | apply below_drew1 | apply pw_below_drewN)) hb); have HF := Aside0.mk (below_step (show Below w.heap.size w _ from by repeat (first | exact HE.out | apply below_drew1 | apply pw_below_drewN)) hb); have HO := Aside0.mk (Kd.R_reads' ho); clear ho hb hg_ hnew_) | (go_at_call 157; (with_reducible refine (impl_ReceiveBits.calls k bi (rd n 0) (rd n 1) A6 c6 ys t1 t2 _ ?s1 ?s2 B2_.out).mono ?_); (case s1 => exact Kd.C_below HO.out.2.2 Qj0_); (case s2 => exact HO.out.2.1); rintro e w7 ⟨rfl, hb⟩; have HWH := Aside0.mk (below_step (show Below wg.heap.size wg _ from by repeat (first | exact HWF.out | apply below_drew1 | apply pw_below_drewN)) hb); have HH := Aside0.mk (below_step (show Below w.heap.size w _ from by repeat (first | exact HF.out | apply below_drew1 | apply pw_below_drewN)) hb); clear hb))
  all_goals (go_wp2; go_ret3; exact ⟨rfl, HH.out⟩)
 rw [if_neg d6] at h
 have d6b : (wd.toList == ([99, 108, 111, 99, 107] : List UInt8)) = false := beq_eq_false_iff_ne.mpr d6
 clear d6
 simp only [Option.some.injEq, Prod.mk.injEq] at h
 obtain ⟨rfl, rfl, rfl⟩ := h
 go_enter Tryz.func122, Tryz.ntmps122
 go_wp2_with (first | ((with_reducible refine gate_dst (N := 3) rfl ?_); (try (refine gate_guard (by rfl) ?_; dsimp only)); refine box_event ?hg (N := 3) ?hd (cs := #[.string fr, .int .i64 p, .string bi, .slice A3 n.length c3, .slice A4 li.length c4]) (t := 105) ?hr ?_; (case hd => rfl); (case hg => rfl); (case hr => exact Qh0_); intro ga hgga wg hbox hb; have n0_ := Aside0.mk (below_step Qa0_ hb); have n1_ := Aside0.mk (hbox); clear HB; have HB := n0_; have BKga := n1_; clear n0_ n1_; clear hb hbox hgga; have hczga2 : wg.cell? ⟨ga, 2, none⟩ = some (.string bi) := (blk_cell BKga.out 2).trans rfl))
 go_ret3
 first | exact ⟨rfl, HB.out⟩ | exact ⟨rfl, pw_below_drewN HB.out _⟩
def cmp_isNaN_string.f (a0 : ByteArray) : Option (Bool) := some (a0.toList != a0.toList)
set_option maxHeartbeats 8000000 in
set_option maxRecDepth 100000 in
theorem cmp_isNaN_string.calls (a0 : ByteArray) (r : Bool) (w : World) (h : cmp_isNaN_string.f a0 = some r) :
 Calls Tryz.prog 192 #[.string a0] w fun e w' => e = .returned (.bool r) ∧ Drawn0 w w' := by
 have H : (some (a0.toList != a0.toList)) = some r := h
 clear h
 obtain rfl := Option.some.inj H
 go_enter Tryz.func192, Tryz.ntmps192
 go_wp2
 go_ret
 exact ⟨Qc0_, Qd0_⟩
def cmp_Less_string.f (a0 : ByteArray) (a1 : ByteArray) : Option (Bool) := (cmp_isNaN_string.f a0).bind fun t309 => (if t309 = true then ((cmp_isNaN_string.f a1).bind fun t310 => (if t310 = true then (some (Op.bytesLess a0.toList a1.toList)) else (some true))) else (some (Op.bytesLess a0.toList a1.toList)))
set_option maxHeartbeats 8000000 in
set_option maxRecDepth 100000 in
theorem cmp_Less_string.calls (a0 : ByteArray) (a1 : ByteArray) (r : Bool) (w : World) (h : cmp_Less_string.f a0 a1 = some r) :
 Calls Tryz.prog 180 #[.string a0, .string a1] w fun e w' => e = .returned (.bool r) ∧ Drawn0 w w' := by
 have H : ((cmp_isNaN_string.f a0).bind fun t309 => (if t309 = true then ((cmp_isNaN_string.f a1).bind fun t310 => (if t310 = true then (some (Op.bytesLess a0.toList a1.toList)) else (some true))) else (some (Op.bytesLess a0.toList a1.toList)))) = some r := h
 clear h
 replace H := Option.bind_eq_some_iff.mp H
 obtain ⟨t309, A30, H⟩ := H
 try dsimp only at H
 have A3 := Aside0.mk A30
 clear A30
 by_cases c4 : t309 = true
 ·subst c4
  rw [if_pos rfl] at H
  have H1 := H
  clear H
  have H := H1
  clear H1
  replace H := Option.bind_eq_some_iff.mp H
  obtain ⟨t310, A50, H⟩ := H
  try dsimp only at H
  have A5 := Aside0.mk A50
  clear A50
  by_cases c6 : t310 = true
  ·subst c6
   rw [if_pos rfl] at H
   have H1 := H
   clear H
   have H := H1
   clear H1
   obtain rfl := Option.some.inj H
   go_enter Tryz.func180, Tryz.ntmps180
   go_wp2_with (first | ((with_reducible refine gate_callee (f := 192) rfl ?_); refine goesL_ (some 6) rfl rfl Tryz.func192 Qi0_ rfl #[.string a0] rfl Qb0_ ?_; (with_reducible refine (cmp_isNaN_string.calls a0 true _ A3.out).mono ?_); rintro e w' ⟨rfl, ⟨nd, rfl⟩⟩; refine ⟨_, rfl, ?_⟩) | (go_at_call 192; (with_reducible refine (cmp_isNaN_string.calls a1 true _ A5.out).mono ?_); rintro e w' ⟨rfl, ⟨nd, rfl⟩⟩))
   go_ret
   exact ⟨Qc0_, Qd0_⟩
  ·replace c6 := Bool.eq_false_iff.mpr c6
   subst c6
   rw [if_neg (show ¬ (false = true) by decide)] at H
   have H1 := H
   clear H
   have H := H1
   clear H1
   obtain rfl := Option.some.inj H
   go_enter Tryz.func180, Tryz.ntmps180
   go_wp2_with (first | ((with_reducible refine gate_callee (f := 192) rfl ?_); refine goesL_ (some 6) rfl rfl Tryz.func192 Qi0_ rfl #[.string a0] rfl Qb0_ ?_; (with_reducible refine (cmp_isNaN_string.calls a0 true _ A3.out).mono ?_); rintro e w' ⟨rfl, ⟨nd, rfl⟩⟩; refine ⟨_, rfl, ?_⟩) | (go_at_call 192; (with_reducible refine (cmp_isNaN_string.calls a1 false _ A5.out).mono ?_); rintro e w' ⟨rfl, ⟨nd, rfl⟩⟩))
   go_ret
   exact ⟨Qc0_, Qd0_⟩
 ·replace c4 := Bool.eq_false_iff.mpr c4
  subst c4
  rw [if_neg (show ¬ (false = true) by decide)] at H
  have H1 := H
  clear H
  have H := H1
  clear H1
  obtain rfl := Option.some.inj H
  go_enter Tryz.func180, Tryz.ntmps180
  go_wp2_with (first | ((with_reducible refine gate_callee (f := 192) rfl ?_); refine goesL_ (some 6) rfl rfl Tryz.func192 Qi0_ rfl #[.string a0] rfl Qb0_ ?_; (with_reducible refine (cmp_isNaN_string.calls a0 false _ A3.out).mono ?_); rintro e w' ⟨rfl, ⟨nd, rfl⟩⟩; refine ⟨_, rfl, ?_⟩))
  go_ret
  exact ⟨Qc0_, Qd0_⟩
def slices_isNaN_string.f (a0 : ByteArray) : Option (Bool) := some (a0.toList != a0.toList)
set_option maxHeartbeats 8000000 in
set_option maxRecDepth 100000 in
theorem slices_isNaN_string.calls (a0 : ByteArray) (r : Bool) (w : World) (h : slices_isNaN_string.f a0 = some r) :
 Calls Tryz.prog 181 #[.string a0] w fun e w' => e = .returned (.bool r) ∧ Drawn0 w w' := by
 have H : (some (a0.toList != a0.toList)) = some r := h
 clear h
 obtain rfl := Option.some.inj H
 go_enter Tryz.func181, Tryz.ntmps181
 go_wp2
 go_ret
 exact ⟨Qc0_, Qd0_⟩
def slices_BinarySearch_string_string.l0 : Nat → List ByteArray → ByteArray → Int → Int → Int → Option (Int × Bool)
 | 0, _, _, _, _, _ => none
 | k + 1, x0, x1, x6, x7, x8 => if x7 < x8 then (if 0 ≤ (wrap64 ((IntKind.u64.wrap (wrap64 (x7 + x8))) / 2)) then (if (wrap64 ((IntKind.u64.wrap (wrap64 (x7 + x8))) / 2)) < (x0.length : Int) then ((cmp_Less_string.f (rdOf ByteArray.empty x0 (wrap64 ((IntKind.u64.wrap (wrap64 (x7 + x8))) / 2))) x1).bind fun t312 => (if t312 = true then (slices_BinarySearch_string_string.l0 k x0 x1 x6 (wrap64 ((wrap64 ((IntKind.u64.wrap (wrap64 (x7 + x8))) / 2)) + 1)) x8) else (slices_BinarySearch_string_string.l0 k x0 x1 x6 x7 (wrap64 ((IntKind.u64.wrap (wrap64 (x7 + x8))) / 2))))) else (none)) else (none)) else (if x7 < x6 then (if 0 ≤ x7 then (if x7 < (x0.length : Int) then (if (rdOf ByteArray.empty x0 x7).toList = x1.toList then (some (x7, true)) else ((slices_isNaN_string.f (rdOf ByteArray.empty x0 x7)).bind fun t315 => (if t315 = true then ((slices_isNaN_string.f x1).bind fun t316 => (some (x7, t316))) else (some (x7, false))))) else (none)) else (none)) else (some (x7, false)))
def slices_BinarySearch_string_string.f (k : Nat) (l0 : List ByteArray) (a1 : ByteArray) : Option (Int × Bool) := slices_BinarySearch_string_string.l0 k l0 a1 (l0.length : Int) 0 (l0.length : Int)
theorem slices_BinarySearch_string_string.mono_l : ∀ k, (∀ y0 y1 y2 y3 y4, LeO (slices_BinarySearch_string_string.l0 k y0 y1 y2 y3 y4) (slices_BinarySearch_string_string.l0 (k + 1) y0 y1 y2 y3 y4))
 | 0 => fun _ _ _ _ _ r h => by simp [slices_BinarySearch_string_string.l0] at h
 | k + 1 => by
  have ih0 := slices_BinarySearch_string_string.mono_l k
  ·intro y0 y1 y2 y3 y4
   unfold slices_BinarySearch_string_string.l0
   repeat' first
   | (with_reducible exact ih0 _ _ _ _ _)
   | (with_reducible exact LeO.refl _)
   | (with_reducible exact LeO.none _)
   | (with_reducible refine LeO.ite ?_ ?_)
   | (with_reducible refine LeO.bind ?_ (fun _ => ?_))
   | exact ih0 _ _ _ _ _
   | exact LeO.none _
   | refine LeO.ite ?_ ?_
   | refine LeO.bind ?_ (fun _ => ?_)
theorem slices_BinarySearch_string_string.mono : ∀ a0 a1 k, LeO (slices_BinarySearch_string_string.f k a0 a1) (slices_BinarySearch_string_string.f (k + 1) a0 a1) := by
 intro a0 a1 k
 have ih0 := slices_BinarySearch_string_string.mono_l k
 unfold slices_BinarySearch_string_string.f
 repeat' first
  | (with_reducible exact ih0 _ _ _ _ _)
  | (with_reducible exact LeO.refl _)
  | (with_reducible exact LeO.none _)
  | (with_reducible refine LeO.ite ?_ ?_)
  | (with_reducible refine LeO.bind ?_ (fun _ => ?_))
  | exact ih0 _ _ _ _ _
  | exact LeO.none _
  | refine LeO.ite ?_ ?_
  | refine LeO.bind ?_ (fun _ => ?_)
set_option maxHeartbeats 8000000 in
set_option maxRecDepth 100000 in
theorem slices_BinarySearch_string_string.calls (k : Nat) (A0 : Option Addr) (c0 : Nat) (l0 : List ByteArray) (a1 : ByteArray) (r1 : Int) (r2 : Bool) (w : World) (hr0 : Kd.C Kd.string w A0 l0.length l0) (hc0 : l0.length ≤ c0) (h : slices_BinarySearch_string_string.f k l0 a1 = some (r1, r2)) :
 Calls Tryz.prog 159 #[.slice A0 l0.length c0, .string a1] w fun e w' => e = .returned (.tuple #[.int .i64 r1, .bool r2]) ∧ Drawn0 w w' := by
 have HR0 := Aside0.mk hr0
 have HC0 := Aside0.mk hc0
 clear hr0 hc0
 have H : (slices_BinarySearch_string_string.l0 k l0 a1 (l0.length : Int) 0 (l0.length : Int)) = some (r1, r2) := h
 clear h
 have H' := Aside0.mk H
 clear H
 go_enter Tryz.func159, Tryz.ntmps159
 go_wp2
 go_loopg [7, 8] k (fun kq v7 v8 w' => ∃ (x7_1 : Int) (x8_1 : Int), v7 = .int .i64 x7_1 ∧ v8 = .int .i64 x8_1 ∧ Aside0 (slices_BinarySearch_string_string.l0 kq l0 a1 (l0.length : Int) x7_1 x8_1 = some (r1, r2)) ∧ Aside0 (kq ≤ k) ∧ Drawn0 w w')
 case atStart => exact ⟨(0), ((l0.length : Int)), Qc0_, Qc0_, H', ⟨Nat.le_refl _⟩, Qd0_⟩
 case round =>
  clear H'
  try clear c1
  try clear p2
  obtain ⟨x7_1, x8_1, rfl, rfl, HA, HK1, ⟨m1, rfl⟩⟩ := hrel
  cases gk with
  | zero => exact absurd HA.out (by simp [slices_BinarySearch_string_string.l0])
  | succ k1 =>
   have H := HA.out
   clear HA
   simp only [slices_BinarySearch_string_string.l0] at H
   by_cases c3 : x7_1 < x8_1
   ·rw [if_pos c3] at H
    have c3b0 := decide_eq_true c3
    clear c3
    obtain ⟨ji4, hji4⟩ : ∃ j_ : Int, (wrap64 ((IntKind.u64.wrap (wrap64 (x7_1 + x8_1))) / 2)) = j_ := ⟨_, rfl⟩
    replace H : (if 0 ≤ (ji4) then (if (ji4) < (l0.length : Int) then ((cmp_Less_string.f (rdOf ByteArray.empty l0 (ji4)) a1).bind fun t312 => (if t312 = true then (slices_BinarySearch_string_string.l0 k1 l0 a1 (l0.length : Int) (wrap64 ((ji4) + 1)) x8_1) else (slices_BinarySearch_string_string.l0 k1 l0 a1 (l0.length : Int) x7_1 ji4))) else (none)) else (none)) = some (r1, r2) := by first | (rw [hji4] at H; exact H) | (simp only [hji4] at H ⊢; exact H)
    have hji4w : (IntKind.i64.wrap ((IntKind.u64.wrap (wrap64 (x7_1 + x8_1))) / 2)) = ji4 := (i64_w _).trans hji4
    (try rw [hji4])
    by_cases c5 : 0 ≤ (ji4)
    ·rw [if_pos c5] at H
     have c5b0 := decide_eq_true c5
     clear c5
     by_cases c6 : (ji4) < (l0.length : Int)
     ·rw [if_pos c6] at H
      have c6b0 := decide_eq_true c6
      clear c6
      replace H := Option.bind_eq_some_iff.mp H
      obtain ⟨t312, A70, H⟩ := H
      try dsimp only at H
      have A7 := Aside0.mk A70
      clear A70
      by_cases c8 : t312 = true
      ·subst c8
       rw [if_pos rfl] at H
       have H1 := H
       clear H
       have H := H1
       clear H1
       have H' := Aside0.mk H
       clear H
       have p311 : 0 ≤ ((ji4) : Int) := of_decide_eq_true Qf0_
       have q311 : (ji4) < (l0.length : Int) := of_decide_eq_true Qf0_
       obtain ⟨ad311, e311, hx311_0⟩ := Kd.at_string HR0.out (ji4) p311 q311
       cases e311
       replace p311 := eq_true p311
       replace q311 := eq_true q311
       go_wp2_with (first | ((with_reducible refine gate_callee (f := 180) rfl ?_); refine goesL_ (some 27) rfl rfl Tryz.func180 Qi0_ rfl #[.string (rdOf ByteArray.empty l0 (ji4)), .string a1] rfl (by (try simp only [List.map_toArray, List.map_cons, List.map_nil]); first | done | (simp only [hji4]; rfl) | rfl | (simp only [List.length_drop, List.length_take]; rfl)) ?_; (with_reducible refine (cmp_Less_string.calls (rdOf ByteArray.empty l0 (ji4)) a1 true _ A7.out).mono ?_); rintro e w' ⟨rfl, ⟨nd, rfl⟩⟩; refine ⟨_, rfl, ?_⟩))
       go_roundg k1
       case measure => have := HK1.out; omega
       case rel => exact ⟨(wrap64 ((ji4) + 1)), (x8_1), (by first | rfl | (simp; done) | (simp only [← hji4] <;> (first | rfl | simp)) | (simp [*]; done)), Qc0_, H', ⟨Qp0_⟩, Qd0_⟩
      ·replace c8 := Bool.eq_false_iff.mpr c8
       subst c8
       rw [if_neg (show ¬ (false = true) by decide)] at H
       have H1 := H
       clear H
       have H := H1
       clear H1
       have H' := Aside0.mk H
       clear H
       have p311 : 0 ≤ ((ji4) : Int) := of_decide_eq_true Qf0_
       have q311 : (ji4) < (l0.length : Int) := of_decide_eq_true Qf0_
       obtain ⟨ad311, e311, hx311_0⟩ := Kd.at_string HR0.out (ji4) p311 q311
       cases e311
       replace p311 := eq_true p311
       replace q311 := eq_true q311
       go_wp2_with (first | ((with_reducible refine gate_callee (f := 180) rfl ?_); refine goesL_ (some 27) rfl rfl Tryz.func180 Qi0_ rfl #[.string (rdOf ByteArray.empty l0 (ji4)), .string a1] rfl (by (try simp only [List.map_toArray, List.map_cons, List.map_nil]); first | done | (simp only [hji4]; rfl) | rfl | (simp only [List.length_drop, List.length_take]; rfl)) ?_; (with_reducible refine (cmp_Less_string.calls (rdOf ByteArray.empty l0 (ji4)) a1 false _ A7.out).mono ?_); rintro e w' ⟨rfl, ⟨nd, rfl⟩⟩; refine ⟨_, rfl, ?_⟩))
       go_roundg k1
       case measure => have := HK1.out; omega
       case rel => exact ⟨(x7_1), (ji4), Qc0_, (by first | rfl | (simp; done) | (simp only [← hji4] <;> (first | rfl | simp)) | (simp [*]; done)), H', ⟨Qp0_⟩, Qd0_⟩
     ·rw [if_neg c6] at H
      exact absurd H (by simp)
    ·rw [if_neg c5] at H
     exact absurd H (by simp)
   ·rw [if_neg c3] at H
    have c3b0 := decide_eq_false c3
    clear c3
    by_cases c9 : x7_1 < (l0.length : Int)
    ·rw [if_pos c9] at H
     have c9b0 := decide_eq_true c9
     clear c9
     by_cases c10 : 0 ≤ x7_1
     ·rw [if_pos c10] at H
      have c10b0 := decide_eq_true c10
      clear c10
      by_cases c11 : x7_1 < (l0.length : Int)
      ·rw [if_pos c11] at H
       have c11b0 := decide_eq_true c11
       clear c11
       by_cases c12 : (rdOf ByteArray.empty l0 x7_1).toList = a1.toList
       ·rw [if_pos c12] at H
        have c12b0 := beq_iff_eq.mpr c12
        have c12b1 := bne_eq_false_iff_eq.mpr c12
        clear c12
        simp only [Option.some.injEq, Prod.mk.injEq] at H
        obtain ⟨rfl, rfl⟩ := H
        have p313 : 0 ≤ (x7_1 : Int) := of_decide_eq_true Qf0_
        have q313 : x7_1 < (l0.length : Int) := of_decide_eq_true Qf0_
        obtain ⟨ad313, e313, hx313_0⟩ := Kd.at_string HR0.out x7_1 p313 q313
        cases e313
        replace p313 := eq_true p313
        replace q313 := eq_true q313
        go_wp2
        go_ret2
        exact ⟨Qc0_, Qd0_⟩
       ·rw [if_neg c12] at H
        have c12b0 := beq_eq_false_iff_ne.mpr c12
        have c12b1 := bne_iff_ne.mpr c12
        replace H := Option.bind_eq_some_iff.mp H
        obtain ⟨t315, A130, H⟩ := H
        try dsimp only at H
        have A13 := Aside0.mk A130
        clear A130
        by_cases c14 : t315 = true
        ·subst c14
         rw [if_pos rfl] at H
         have H1 := H
         clear H
         have H := H1
         clear H1
         replace H := Option.bind_eq_some_iff.mp H
         obtain ⟨t316, A150, H⟩ := H
         try dsimp only at H
         have A15 := Aside0.mk A150
         clear A150
         simp only [Option.some.injEq, Prod.mk.injEq] at H
         obtain ⟨rfl, rfl⟩ := H
         have p313 : 0 ≤ (x7_1 : Int) := of_decide_eq_true Qf0_
         have q313 : x7_1 < (l0.length : Int) := of_decide_eq_true Qf0_
         obtain ⟨ad313, e313, hx313_0⟩ := Kd.at_string HR0.out x7_1 p313 q313
         cases e313
         replace p313 := eq_true p313
         replace q313 := eq_true q313
         have p314 : 0 ≤ (x7_1 : Int) := of_decide_eq_true Qf0_
         have q314 : x7_1 < (l0.length : Int) := of_decide_eq_true Qf0_
         obtain ⟨ad314, e314, hx314_0⟩ := Kd.at_string HR0.out x7_1 p314 q314
         obtain rfl : ad313 = ad314 := (by injection e314)
         replace p314 := eq_true p314
         replace q314 := eq_true q314
         go_wp2_with (first | (go_at_call 181; (with_reducible refine (slices_isNaN_string.calls (rdOf ByteArray.empty l0 x7_1) true _ A13.out).mono ?_); rintro e w' ⟨rfl, ⟨nd, rfl⟩⟩) | (go_at_call 181; (with_reducible refine (slices_isNaN_string.calls a1 t316 _ A15.out).mono ?_); rintro e w' ⟨rfl, ⟨nd, rfl⟩⟩))
         go_ret2
         exact ⟨Qc0_, Qd0_⟩
        ·replace c14 := Bool.eq_false_iff.mpr c14
         subst c14
         rw [if_neg (show ¬ (false = true) by decide)] at H
         have H1 := H
         clear H
         have H := H1
         clear H1
         simp only [Option.some.injEq, Prod.mk.injEq] at H
         obtain ⟨rfl, rfl⟩ := H
         have p313 : 0 ≤ (x7_1 : Int) := of_decide_eq_true Qf0_
         have q313 : x7_1 < (l0.length : Int) := of_decide_eq_true Qf0_
         obtain ⟨ad313, e313, hx313_0⟩ := Kd.at_string HR0.out x7_1 p313 q313
         cases e313
         replace p313 := eq_true p313
         replace q313 := eq_true q313
         have p314 : 0 ≤ (x7_1 : Int) := of_decide_eq_true Qf0_
         have q314 : x7_1 < (l0.length : Int) := of_decide_eq_true Qf0_
         obtain ⟨ad314, e314, hx314_0⟩ := Kd.at_string HR0.out x7_1 p314 q314
         obtain rfl : ad313 = ad314 := (by injection e314)
         replace p314 := eq_true p314
         replace q314 := eq_true q314
         go_wp2_with (first | (go_at_call 181; (with_reducible refine (slices_isNaN_string.calls (rdOf ByteArray.empty l0 x7_1) false _ A13.out).mono ?_); rintro e w' ⟨rfl, ⟨nd, rfl⟩⟩))
         go_ret2
         exact ⟨Qc0_, Qd0_⟩
      ·rw [if_neg c11] at H
       exact absurd H (by simp)
     ·rw [if_neg c10] at H
      exact absurd H (by simp)
    ·rw [if_neg c9] at H
     have c9b0 := decide_eq_false c9
     clear c9
     simp only [Option.some.injEq, Prod.mk.injEq] at H
     obtain ⟨rfl, rfl⟩ := H
     go_wp2
     go_ret2
     exact ⟨Qc0_, Qd0_⟩
theorem in_setCells {g : Nat} {t : TypeId} : ∀ (vs : List Value) (o : Nat) (w : World) (cs : List Value), w.heap[g]? = some (.cells cs.toArray t (0, 0)) → o + vs.length ≤ cs.length → (w.setCells g o vs).heap[g]? = some (.cells (cs.take o ++ vs ++ cs.drop (o + vs.length)).toArray t (0, 0))
 | [], o, w, cs, h, hl => by
  show w.heap[g]? = _
  rw [h, List.append_nil, List.length_nil, Nat.add_zero, List.take_append_drop]
 | v :: vs, o, w, cs, h, hl => by
  rw [List.length_cons] at hl
  have h1 : (w.setCell ⟨g, o, none⟩ v).heap[g]? = some (.cells (cs.set o v).toArray t (0, 0)) := blk_put h o v (by simp)
  have h2 := in_setCells vs (o + 1) (w.setCell ⟨g, o, none⟩ v) (cs.set o v) h1 (by rw [List.length_set]; omega)
  show ((w.setCell ⟨g, o, none⟩ v).setCells g (o + 1) vs).heap[g]? = _
  rw [h2]
  congr 3
  have ho : o < cs.length := by omega
  rw [List.set_eq_take_append_cons_drop, if_pos ho]
  have e1 : (cs.take o ++ v :: cs.drop (o + 1)).take (o + 1) = cs.take o ++ [v] := by
   rw [List.take_append, List.length_take, Nat.min_eq_left (by omega), List.take_of_length_le (by rw [List.length_take]; omega), show o + 1 - o = 1 by omega]; rfl
  have e2 : (cs.take o ++ v :: cs.drop (o + 1)).drop (o + 1 + vs.length) = cs.drop (o + (vs.length + 1)) := by
   rw [List.drop_append, List.length_take, Nat.min_eq_left (by omega), List.drop_eq_nil_of_le (by rw [List.length_take]; omega), List.nil_append, show o + 1 + vs.length - o = vs.length + 1 by omega, List.drop_succ_cons, List.drop_drop]
   congr 1; omega
  rw [e1, e2, List.length_cons, List.append_assoc, List.append_assoc]
  simp
theorem in_other {g k : Nat} (hk : k ≠ g) : ∀ (vs : List Value) (o : Nat) (w : World), (w.setCells g o vs).heap[k]? = w.heap[k]?
 | [], _, _ => rfl
 | v :: vs, o, w => by
  show ((w.setCell ⟨g, o, none⟩ v).setCells g (o + 1) vs).heap[k]? = _
  rw [in_other hk vs (o + 1) _]
  exact Below.heap_setCell _ _ _ k hk
theorem in_os {g : Nat} : ∀ (vs : List Value) (o : Nat) (w : World), (w.setCells g o vs).os = w.os ∧ (w.setCells g o vs).tape = w.tape ∧ (w.setCells g o vs).output = w.output ∧ (w.setCells g o vs).heap.size = w.heap.size
 | [], _, _ => ⟨rfl, rfl, rfl, rfl⟩
 | v :: vs, o, w => by
  have h := in_os (g := g) vs (o + 1) (w.setCell ⟨g, o, none⟩ v)
  exact ⟨h.1, h.2.1, h.2.2.1, h.2.2.2.trans (by simp [World.setCell])⟩
theorem in_grown {w w1 : World} {g : Nat} (vs : List Value) (o : Nat) (row : Option Nat) (hg : w.grownBy w1 row) (h : row = some g ∨ w.heap.size ≤ g) : w.grownBy (w1.setCells g o vs) row := by
 have h2 := in_os (g := g) vs o w1
 refine ⟨h2.1.trans hg.os, h2.2.1.trans hg.tape, h2.2.2.1.trans hg.output, by rw [h2.2.2.2]; exact hg.size, fun k hk hne => ?_⟩
 rw [in_other (fun e => ?_) vs o w1]
 ·exact hg.block k hk hne
 ·rcases h with h | h
  ·exact hne (by rw [h, e])
  ·omega
theorem in_alloc (w : World) (o : Obj) (row : Option Nat) : w.grownBy (w.drew.alloc o) row := by
 have h := World.grownBy_alloc w.drew o row
 exact ⟨h.os, h.tape, h.output, h.size, h.block⟩
theorem in_drew {w w1 : World} {b g : Nat} {o : Nat} {vs : List Value} (h : w.grownBy ((w1.setCells g o vs)) none) : w.grownBy ((w1.drew.setCells g o vs).drew) (some b) := by
 rw [← drew_setCells]
 exact ⟨h.os, h.tape, h.output, h.size, fun k hk _ => h.block k hk (by simp)⟩
theorem in_zero (n : Nat) : (Builtin.zeroCells (Value.string ⟨#[]⟩).cells n).size = n := by rw [size_zeroCells]; exact Nat.mul_one n
theorem in_take {A B C : List Value} {n : Nat} (h : (A ++ B).length = n) : (A ++ B ++ C).take n = A ++ B := by rw [← h, List.take_left']; rfl
theorem slices_Insert_string_string.calls (ok : Nat → Prop) (base : Nat) (v : Value) (l : List ByteArray) (i : Nat) (vb : Nat) (x : ByteArray) (w : World) (hbw : base ≤ w.heap.size) (ho : Kd.R Kd.string 9 w base ok v l) (hi : i ≤ l.length) (hbig : l.length ≤ 1000) (hvb : v.ownBlock ≠ some vb) (hx : w.heap[vb]? = some (.cells #[.string x] 9 (0, 0))) :
 Calls Tryz.prog 160 #[v, .int .i64 i, .slice (some ⟨vb, 0, none⟩) 1 1] w fun e w' => ∃ v' : Value, e = .returned v' ∧ Kd.R Kd.string 9 w' base (fun k => ok k ∨ w.heap.size ≤ k) v' (l.take i ++ x :: l.drop i) ∧ (v'.ownBlock = v.ownBlock ∨ ∃ b, v'.ownBlock = some b ∧ w.heap.size ≤ b) ∧ w.grownBy w' v.ownBlock := by
 have hown := Kd.own_of_R ho
 have hok := ho.1
 have hmx : (1001 : Nat) ≤ maxLen := by unfold maxLen; omega
 have hvs : ∀ j u, ([Value.string x] : List Value)[j]? = some u → w.cell? ⟨vb, 0 + j, none⟩ = some u := by
  intro j u hj
  rw [blk_cell hx]
  simpa using hj
 have h1v : ∀ u ∈ ([Value.string x] : List Value), u.oneCell' = true := by intro u hu; rw [List.mem_singleton] at hu; subst hu; rfl
 have hcl : (encs Value.string l).length = l.length := by unfold encs; rw [List.length_map]
 have h1c : ∀ u ∈ encs Value.string l, u.oneCell' = true := by
  intro u hu
  unfold encs at hu
  obtain ⟨y, _, rfl⟩ := List.mem_map.1 hu
  rfl
 have hcaps : ∀ c, l.length + 1 ≤ grownCap w (l.length + 1) c 9 ∧ grownCap w (l.length + 1) c 9 ≤ maxLen := fun c => ⟨grownCap_ge _ _ _ _, grownCap_le_maxLen _ _ _ _ (by omega)⟩
 have hresl : (l.take i ++ x :: l.drop i).length = l.length + 1 := by rw [List.length_append, List.length_cons, List.length_take, List.length_drop]; omega
 have hres : encs Value.string (l.take i ++ x :: l.drop i) = (encs Value.string l).take i ++ Value.string x :: (encs Value.string l).drop i := by
  unfold encs; rw [List.map_append, List.map_cons, List.map_take, List.map_drop]
 have fresh : ∀ (w' : World) (cs : List Value) (c : Nat), w.heap.size < w'.heap.size → w'.heap[w.heap.size]? = some (.cells cs.toArray 9 (0, 0)) → l.length + 1 ≤ c → c ≤ maxLen → cs.length = c → cs.take (l.length + 1) = encs Value.string (l.take i ++ x :: l.drop i) →
  Kd.R Kd.string 9 w' base (fun k => ok k ∨ w.heap.size ≤ k) (.slice (some ⟨w.heap.size, 0, none⟩) (l.length + 1) c) (l.take i ++ x :: l.drop i) := by
  intro w' cs c hlt hh h1 h2 h3 h4
  refine Kd.R_of_own ?_ (fun k hk => .inr (by cases hk; exact Nat.le_refl _))
  rw [hresl]
  exact ⟨by rw [← h4, List.length_take]; omega, .inr ⟨w.heap.size, c, cs.toArray, rfl, hbw, hh, h1, h2, by simpa using h3, by rw [Nat.mul_one]; simpa using h4⟩⟩
 rcases hown.2 with ⟨rfl, hn⟩ | ⟨g, cap, cur, rfl, hbase, hb, h1, h2, h3, h4⟩
 ·have hnil : l = [] := List.length_eq_zero_iff.1 hn
  subst hnil
  have hi0 : i = 0 := by simpa using hi
  subst hi0
  have hc := Any2.slices_Insert_string_end_grow (P := Tryz.prog) (ρ := Tryz.lays22_ren) Tryz.lays22 none 0 0 vb 0 1 1 [] [Value.string x] w (by decide) (Nat.le_refl _) (by decide) (by omega) rfl rfl (fun _ => rfl) (fun _ h => by cases h) hvs h1v
  have e1 : Tryz.lays22_ren.f 22 = 160 := rfl
  have e2 : Tryz.lays22_ren.t 9 = 9 := rfl
  rw [e1, e2] at hc
  refine hc.mono fun e w' ⟨he, hw⟩ => ⟨_, he, ?_, .inr ⟨w.heap.size, rfl, Nat.le_refl _⟩, ?_⟩
  ·have hq := hcaps 0
   refine fresh w' ([Value.string x] ++ (Builtin.zeroCells (Value.string ⟨#[]⟩).cells (grownCap w (0 + 1) 0 9 - (0 + 1))).toList) _ ?_ ?_ hq.1 hq.2 ?_ ?_
   ·rw [hw]; simp
   ·rw [hw]
    have := heap_alloc_new w.drew (.cells (([] ++ [Value.string x] : List Value).toArray ++ Builtin.zeroCells (Value.string ⟨#[]⟩).cells (grownCap w (0 + 1) 0 9 - (0 + 1))) 9)
    refine this.trans ?_
    congr 2
    apply Array.ext'
    simp
   ·have hz := in_zero (grownCap w (0 + 1) 0 9 - (0 + 1))
    rw [← Array.length_toList] at hz
    rw [List.length_append, hz, List.length_singleton]
    have := hq.1
    simp only [List.length_nil] at this ⊢
    omega
   ·rw [hres]; rfl
  ·rw [hw]; exact in_alloc _ _ _
 ·have h4 : cur.toList.take l.length = encs Value.string l := by rw [Nat.mul_one] at h4; exact h4
  have hb' : w.heap[g]? = some (.cells cur.toList.toArray 9 (0, 0)) := by simpa using hb
  have hcurl : cur.toList.length = cap := by rw [Array.length_toList, h3, Nat.mul_one]
  have hsplit : cur.toList = encs Value.string l ++ cur.toList.drop l.length := by rw [← h4, List.take_append_drop]
  have hcs : ∀ j u, (encs Value.string l)[j]? = some u → w.cell? ⟨g, 0 + j, none⟩ = some u := by
   intro j u hj
   rw [blk_cell hb, Nat.zero_add, ← Array.getElem?_toList, hsplit, List.getElem?_append_left (by have := (List.getElem?_eq_some_iff.1 hj).1; omega)]
   exact hj
  have hgb : (some g : Option Nat) ≠ some vb := hvb
  have hglt : g < w.heap.size := by
   rcases Nat.lt_or_ge g w.heap.size with h | h
   ·exact h
   ·rw [Array.getElem?_eq_none h] at hb; cases hb
  have e1 : Tryz.lays22_ren.f 22 = 160 := rfl
  have e2 : Tryz.lays22_ren.t 9 = 9 := rfl
  have inplace : ∀ (w' : World) (cs : List Value), w'.heap[g]? = some (.cells cs.toArray 9 (0, 0)) → l.length + 1 ≤ cap → cs.length = cap → cs.take (l.length + 1) = encs Value.string (l.take i ++ x :: l.drop i) →
   Kd.R Kd.string 9 w' base (fun k => ok k ∨ w.heap.size ≤ k) (.slice (some ⟨g, 0, none⟩) (l.length + 1) cap) (l.take i ++ x :: l.drop i) := by
   intro w' cs hh h5 h6 h7
   refine Kd.R_of_own ?_ (fun k hk => .inl (hok k hk))
   rw [hresl]
   exact ⟨by rw [← h7, List.length_take]; omega, .inr ⟨g, cap, cs.toArray, rfl, hbase, hh, h5, h2, by simpa using h6, by rw [Nat.mul_one]; simpa using h7⟩⟩
  by_cases hroom : l.length + 1 ≤ cap
  ·by_cases hie : i = l.length
   ·subst hie
    have hc := Any2.slices_Insert_string_end_room (P := Tryz.prog) (ρ := Tryz.lays22_ren) Tryz.lays22 g 0 l.length cap vb 0 1 1 [Value.string x] w (by decide) hroom (by unfold maxLen at h2; omega) rfl
     (fun j hj => by rw [blk_cell hb, Array.getElem?_eq_getElem (by omega)]; rfl) (fun j _ => blk_frozen hb _) hvs h1v
    rw [e1] at hc
    refine hc.mono fun e w' ⟨he, hw⟩ => ⟨_, he, ?_, .inl rfl, ?_⟩
    ·have hs := in_setCells [Value.string x] (0 + l.length) w cur.toList (by simpa using hb) (by simp; omega)
     refine inplace w' _ (by rw [hw]; exact hs) hroom ?_ ?_
     ·simp only [List.length_append, List.length_take, List.length_drop, List.length_singleton, hcurl]; omega
     ·rw [Nat.zero_add, h4, in_take (by rw [List.length_append, hcl, List.length_singleton]), hres, List.take_of_length_le (by omega), List.drop_eq_nil_of_le (by omega)]
    ·rw [hw]; exact in_grown _ _ _ ⟨rfl, rfl, rfl, Nat.le_refl _, fun _ _ _ => rfl⟩ (.inl rfl)
   ·have hil : i < l.length := by omega
    have hc := Any2.slices_Insert_string_shift (P := Tryz.prog) (ρ := Tryz.lays22_ren) Tryz.lays22 g 0 l.length cap i vb 0 1 1 (encs Value.string l) [Value.string x] w hil (by decide) hroom (by unfold maxLen at h2; omega) (fun e => hgb (by rw [e])) hcl rfl hcs
     (fun j hj => by rw [blk_cell hb, Array.getElem?_eq_getElem (by omega)]; rfl) (fun j _ => blk_frozen hb _) hvs h1c h1v 9 9 1 cap (by unfold World.shape?; rw [hx]; rfl) (by unfold World.shape?; rw [hb]; simp [h3]) (by omega) (blk_frozen hx _) (blk_frozen hx _)
    rw [e1] at hc
    refine hc.mono fun e w' ⟨he, hw⟩ => ⟨_, he, ?_, .inl rfl, ?_⟩
    ·have hs := in_setCells ((encs Value.string l).drop i) (0 + (i + 1)) w.drew cur.toList hb' (by rw [List.length_drop, hcl]; omega)
     have hs2 := in_setCells [Value.string x] (0 + i) _ _ hs (by simp only [List.length_append, List.length_take, List.length_drop, List.length_singleton, hcurl, hcl]; omega)
     refine inplace w' _ (by rw [hw]; exact hs2) hroom ?_ ?_
     ·simp only [List.length_append, List.length_take, List.length_drop, List.length_singleton, hcurl, hcl]; omega
     ·rw [hres, Nat.zero_add, Nat.zero_add, List.length_singleton, List.length_drop, hcl]
      have hti : (encs Value.string l).take i = cur.toList.take i := by rw [← h4, List.take_take, Nat.min_eq_left (by omega)]
      generalize hD : (encs Value.string l).drop i = D
      have hDl : D.length = l.length - i := by rw [← hD, List.length_drop, hcl]
      rw [hti]
      have hA : (cur.toList.take (i + 1) ++ D ++ cur.toList.drop (i + 1 + (l.length - i))).take i = cur.toList.take i := by
       rw [List.take_append_of_le_length (by rw [List.length_append, List.length_take, hcurl]; omega), List.take_append_of_le_length (by rw [List.length_take, hcurl]; omega), List.take_take, Nat.min_eq_left (by omega)]
      have hB : (cur.toList.take (i + 1) ++ D ++ cur.toList.drop (i + 1 + (l.length - i))).drop (i + 1) = D ++ cur.toList.drop (i + 1 + (l.length - i)) := by
       rw [List.append_assoc, List.drop_append, List.length_take, hcurl, Nat.min_eq_left (by omega), List.drop_eq_nil_of_le (by rw [List.length_take]; omega), List.nil_append, Nat.sub_self, List.drop_zero]
      rw [hA, hB, List.append_assoc, List.take_append, List.take_of_length_le (by rw [List.length_take]; omega), List.length_take, hcurl, Nat.min_eq_left (by omega), show l.length + 1 - i = (l.length - i) + 1 by omega, List.singleton_append, List.take_succ_cons, List.take_append_of_le_length (by omega), List.take_of_length_le (l := D) (Nat.le_of_eq hDl)]
    ·rw [hw]
     exact in_grown _ _ _ (in_grown _ _ _ ⟨rfl, rfl, rfl, Nat.le_refl _, fun _ _ _ => rfl⟩ (.inl rfl)) (.inl rfl)
  ·have hq := hcaps cap
   have hzl := in_zero (grownCap w (l.length + 1) cap 9 - (l.length + 1))
   by_cases hie : i = l.length
   ·subst hie
    have hc := Any2.slices_Insert_string_end_grow (P := Tryz.prog) (ρ := Tryz.lays22_ren) Tryz.lays22 (some ⟨g, 0, none⟩) l.length cap vb 0 1 1 (encs Value.string l) [Value.string x] w (by decide) h1 (by omega) (by omega) hcl rfl (fun h => by cases h) (fun a ha j u hj => by cases ha; have := hcs j u hj; rw [Nat.zero_add] at this; cases j with | zero => exact this | succ j => simpa [Addr.add] using this) hvs h1v
    rw [e1, e2] at hc
    refine hc.mono fun e w' ⟨he, hw⟩ => ⟨_, he, ?_, .inr ⟨w.heap.size, rfl, Nat.le_refl _⟩, ?_⟩
    ·refine fresh w' (encs Value.string l ++ [Value.string x] ++ (Builtin.zeroCells (Value.string ⟨#[]⟩).cells (grownCap w (l.length + 1) cap 9 - (l.length + 1))).toList) _ ?_ ?_ hq.1 hq.2 ?_ ?_
     ·rw [hw]; simp
     ·rw [hw]
      refine (heap_alloc_new w.drew _).trans ?_
      congr 2
      apply Array.ext'
      simp
     ·rw [← Array.length_toList] at hzl
      rw [List.length_append, List.length_append, hzl, hcl, List.length_singleton]
      have := hq.1; omega
     ·rw [in_take (by rw [List.length_append, hcl, List.length_singleton]), hres, List.take_of_length_le (by omega), List.drop_eq_nil_of_le (by omega)]
    ·rw [hw]; exact in_alloc _ _ _
   ·have hil : i < l.length := by omega
    have hc := Any2.slices_Insert_string_grow (P := Tryz.prog) (ρ := Tryz.lays22_ren) Tryz.lays22 g 0 l.length cap i vb 0 1 1 (encs Value.string l) [Value.string x] w hil (by decide) h1 (by omega) (by omega) hcl rfl hcs hvs h1c h1v
    rw [e1, e2] at hc
    have hz2 := in_zero (l.length + 1 - i)
    refine hc.mono fun e w' ⟨he, hw⟩ => ⟨_, he, ?_, .inr ⟨w.heap.size, rfl, Nat.le_refl _⟩, ?_⟩
    ·generalize hZ : (Builtin.zeroCells (Value.string ⟨#[]⟩).cells (l.length + 1 - i)) = Z at hw hz2
     generalize hY : (Builtin.zeroCells (Value.string ⟨#[]⟩).cells (grownCap w (l.length + 1) cap 9 - (l.length + 1))) = Y at hw hzl
     have hti : ((encs Value.string l).take i).length = i := by rw [List.length_take, hcl]; omega
     have hdl : ((encs Value.string l).drop i).length = l.length - i := by rw [List.length_drop, hcl]
     have hZl : Z.toList.length = l.length + 1 - i := by rw [Array.length_toList, hz2]
     have hYl : Y.toList.length = grownCap w (l.length + 1) cap 9 - (l.length + 1) := by rw [Array.length_toList, hzl]
     have s0 : (w.alloc (.cells (((encs Value.string l).take i).toArray ++ Z ++ Y) 9)).drew.heap[w.heap.size]? = some (.cells ((encs Value.string l).take i ++ Z.toList ++ Y.toList).toArray 9 (0, 0)) := by
      refine (heap_alloc_new w _).trans ?_
      congr 2
      apply Array.ext'
      simp
     have s1 := in_setCells [Value.string x] i _ _ s0 (by simp only [List.length_append, List.length_singleton, hti, hZl]; omega)
     have s2 := in_setCells ((encs Value.string l).drop i) (i + 1) (((w.alloc (.cells (((encs Value.string l).take i).toArray ++ Z ++ Y) 9)).drew.setCells w.heap.size i [Value.string x]).drew) _ s1 (by simp only [List.length_append, List.length_singleton, List.length_take, List.length_drop, hcl, hZl, hYl]; omega)
     refine fresh w' _ _ ?_ (by rw [hw]; exact s2) hq.1 hq.2 ?_ ?_
     ·have t1 := (in_os (g := w.heap.size) ((encs Value.string l).drop i) (i + 1) (((w.alloc (.cells (((encs Value.string l).take i).toArray ++ Z ++ Y) 9)).drew.setCells w.heap.size i [Value.string x]).drew)).2.2.2
      have t2 := (in_os (g := w.heap.size) [Value.string x] i ((w.alloc (.cells (((encs Value.string l).take i).toArray ++ Z ++ Y) 9)).drew)).2.2.2
      rw [hw, t1]
      show w.heap.size < ((w.alloc (.cells (((encs Value.string l).take i).toArray ++ Z ++ Y) 9)).drew.setCells w.heap.size i [Value.string x]).heap.size
      rw [t2]
      simp
     ·simp only [List.length_append, List.length_singleton, List.length_take, List.length_drop, hcl, hZl, hYl]
      have := hq.1; omega
     ·rw [hres, hdl]
      have hA : (((encs Value.string l).take i ++ Z.toList ++ Y.toList).take i ++ [Value.string x] ++ ((encs Value.string l).take i ++ Z.toList ++ Y.toList).drop (i + [Value.string x].length)).take (i + 1) = (encs Value.string l).take i ++ [Value.string x] := by
       rw [in_take (by rw [List.length_append, List.length_take, List.length_append, List.length_append, hti, List.length_singleton]; omega), List.append_assoc, List.take_append_of_le_length (by omega), List.take_of_length_le (by omega)]
      rw [hA, in_take (by rw [List.length_append, List.length_append, hti, hdl, List.length_singleton]; omega), List.append_assoc]; rfl
    ·rw [hw]
     refine in_grown _ _ _ ?_ (.inr (Nat.le_refl _))
     have hg := in_grown (w := w) [Value.string x] i none (World.grownBy_alloc w (.cells (((encs Value.string l).take i).toArray ++ Builtin.zeroCells (Value.string ⟨#[]⟩).cells (l.length + 1 - i) ++ Builtin.zeroCells (Value.string ⟨#[]⟩).cells (grownCap w (l.length + 1) cap 9 - (l.length + 1))) 9) none) (.inr (Nat.le_refl _))
     exact in_drew hg
end Go.Proofs.YtbjmbfjbjkhhdaaGreatDoor.QFnTopOfAll
