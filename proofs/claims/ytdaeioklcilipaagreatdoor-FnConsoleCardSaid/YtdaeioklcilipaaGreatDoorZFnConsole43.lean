/- Made small by wip/pack.py: lemmas and contracts that the law's row leans on. -/
import Derived.Test.YtdaeioklcilipaaGreatDoorZFnConsole27
import Derived.Test.YtdaeioklcilipaaGreatDoorZFnConsole28
import Derived.Test.YtdaeioklcilipaaGreatDoorZFnConsole29
import Derived.Test.YtdaeioklcilipaaGreatDoorZFnConsole32
import Derived.Test.YtdaeioklcilipaaGreatDoorZFnConsole33
import Derived.Test.YtdaeioklcilipaaGreatDoorZFnConsole34
import Derived.Test.YtdaeioklcilipaaGreatDoorZFnConsole42
namespace Go.Proofs.YtdaeioklcilipaaGreatDoor.QFnConsole
open Go.RowKit Go.Proofs.YtdaeioklcilipaaGreatDoorW.PrintWords Go.Proofs.YtdaeioklcilipaaGreatDoorW.PrintLast Go.Proofs.YtdaeioklcilipaaGreatDoorW.PrintMore
attribute [local go_sem] max2_int min2_int max_two min_two max_three min_three max_four min_four
set_option linter.unusedVariables false
set_option linter.unusedSimpArgs false
theorem rn_cells (s t : ByteArray) : Lib.byteCells s.data.toList ++ Lib.strCells t = Lib.byteCells (s ++ t).data.toList := by
 rw [ByteArray.data_append, Array.toList_append]
 simp [Lib.byteCells, Lib.strCells]
theorem rn_len (s : ByteArray) : (Lib.byteCells s.data.toList).length = s.size := by
 unfold Lib.byteCells
 rw [List.length_map, Array.length_toList]; rfl
theorem rn_write_k (B b : Nat) (bs : List Value) (s : ByteArray) (w : World) (h : Lib.IsBuilderF 45 5 B b bs w) (hlen : bs.length + s.size ≤ 140737488355328) (hBw : B ≤ w.heap.size) :
 Calls Tryz.prog 19 #[.pointer (some ⟨b, 0, none⟩), .string s] w fun e w' => e = .returned (.tuple #[.int .i64 s.size, .nilIface]) ∧ (Lib.BuilderAtF 45 5 B b (.pointer (some ⟨b, 0, none⟩)) (bs ++ Lib.strCells s) w' ∧ Below B w w' ∧ Lib.OthersKept 5 (some b) w w') := Any.Builder_WriteString_k Tryz.lays166 Tryz.Builder_Extra_166 B b bs s w h hlen hBw
theorem rn_string_k (B b : Nat) (l : List UInt8) (w : World) (h : Lib.IsBuilderF 45 5 B b (Lib.byteCells l) w) (hBw : B ≤ w.heap.size) :
 Calls Tryz.prog 20 #[.pointer (some ⟨b, 0, none⟩)] w fun e w' => e = .returned (.string ⟨l.toArray⟩) ∧ (Lib.IsBuilderF 45 5 B b (Lib.byteCells l) w' ∧ Below B w w' ∧ Lib.OthersKept 5 (some b) w w') := Any.Builder_String_any_k Tryz.lays169 Tryz.Builder_Extra_169 B b l w h hBw
theorem rn_keepAt {B b : Nat} {p : Value} {bs : List Value} {W W' : World} (h : Lib.BuilderAtF 45 5 B b p bs W) (hm : ∀ (k : Nat) (c : Array Value) (t : TypeId) (fz : Nat × Nat), W.heap[k]? = some (.cells c t fz) → t ≠ 26 → W'.heap[k]? = W.heap[k]?) : Lib.BuilderAtF 45 5 B b p bs W' := by
 obtain ⟨h1, v, h2, h3, h4⟩ := h
 refine ⟨h1, v, (hm b _ _ _ h2 (by decide)).trans h2, ⟨h3.1, ?_⟩, h4⟩
 rcases h3.2 with h5 | ⟨g, cap, cur, fz, e, hg, hh, r⟩
 ·exact .inl h5
 ·exact .inr ⟨g, cap, cur, fz, e, hg, (hm g _ _ _ hh (by decide)).trans hh, r⟩
theorem rn_keep {B b : Nat} {bs : List Value} {W W' : World} (h : Lib.IsBuilderF 45 5 B b bs W) (hm : ∀ (k : Nat) (c : Array Value) (t : TypeId) (fz : Nat × Nat), W.heap[k]? = some (.cells c t fz) → t ≠ 26 → W'.heap[k]? = W.heap[k]?) : Lib.IsBuilderF 45 5 B b bs W' :=
 h.elim (fun h => .inl (rn_keepAt h hm)) (fun h => .inr (rn_keepAt h hm))
theorem rn_block {B b : Nat} {bs : List Value} {W : World} (h : Lib.IsBuilderF 45 5 B b bs W) : ∃ c, W.heap[b]? = some (.cells c 45 (0, 0)) := by
 rcases h with ⟨_, v, h2, _⟩ | ⟨_, v, h2, _⟩
 ·exact ⟨_, h2⟩
 ·exact ⟨_, h2⟩
def RnI (w w' : World) (gc ge gb : Nat) (v0 v1 : Value) (n0 n1 : List ByteArray) (vw : Value) (ws : List ByteArray) (out : ByteArray) : Prop :=
 RcI w w' gc ge v0 v1 n0 n1 ∧ RcR w w' vw ws ∧ Lib.IsBuilderF 45 5 w.heap.size gb (Lib.byteCells out.data.toList) w'
theorem RnI.below {w w1 w2 : World} {gc ge gb : Nat} {v0 v1 vw : Value} {n0 n1 ws : List ByteArray} {out : ByteArray} (h : RnI w w1 gc ge gb v0 v1 n0 n1 vw ws out) (hb : Below w1.heap.size w1 w2) : RnI w w2 gc ge gb v0 v1 n0 n1 vw ws out :=
 ⟨h.1.below hb, h.2.1.below hb, rn_keep h.2.2 (fun k c t fz hc _ => hb.block k (ra_blt hc))⟩
theorem RnI.set {w w1 w2 : World} {gc ge gb : Nat} {v0 v1 vw u0 u1 : Value} {n0 n1 ws m0 m1 : List ByteArray} {out : ByteArray} (h : RnI w w1 gc ge gb v0 v1 n0 n1 vw ws out) (r0 : RcR w w1 u0 m0) (r1 : RcR w w1 u1 m1) (hs1 : w2.heap[gc]? = some (.cells #[u0, u1] 26 (0, 0))) (hs2 : ∀ k, k ≠ gc → w2.heap[k]? = w1.heap[k]?) (hs3 : ∀ B w0, Below B w0 w1 → B ≤ gc → Below B w0 w2) : RnI w w2 gc ge gb u0 u1 m0 m1 vw ws out :=
 ⟨h.1.set r0 r1 hs1 hs2 hs3, h.2.1.move (fun k c hc => hs2 k (blk_ne hc h.1.2.2.2.2.1 (by decide))), rn_keep h.2.2 (fun k c t fz hc ht => hs2 k (fun e => by
  have h5 := h.1.2.2.2.2.1
  rw [← e, hc] at h5
  injection h5 with h6
  injection h6 with _ h7 _
  exact ht h7))⟩
theorem rn_far {W W' : World} {gb : Nat} {k : Nat} {c c' : Array Value} {t : TypeId} (ho : Lib.OthersKept 5 (some gb) W W') (hb : W.heap[gb]? = some (.cells c' 45 (0, 0))) (hk : W.heap[k]? = some (.cells c t (0, 0))) (h1 : t ≠ 45) (h2 : t ≠ 5) : W'.heap[k]? = W.heap[k]? :=
 (ho k _ hk (fun e => blk_ne hk hb h1 (Option.some.inj e)) (fun c_ fz e => by injection e with e1 e2 e3; exact h2 e2)).trans hk.symm
theorem RnI.kept {w w1 w2 : World} {gc ge gb : Nat} {v0 v1 vw : Value} {n0 n1 ws : List ByteArray} {out o2 : ByteArray} (h : RnI w w1 gc ge gb v0 v1 n0 n1 vw ws out) (hb : Below w.heap.size w1 w2) (ho : Lib.OthersKept 5 (some gb) w1 w2) (hn : Lib.IsBuilderF 45 5 w.heap.size gb (Lib.byteCells o2.data.toList) w2) : RnI w w2 gc ge gb v0 v1 n0 n1 vw ws o2 := by
 obtain ⟨c, hc⟩ := rn_block h.2.2
 have hm : ∀ (k : Nat) (c : Array Value), w1.heap[k]? = some (.cells c 9 (0, 0)) → w2.heap[k]? = w1.heap[k]? := fun k c' hk => rn_far ho hc hk (by decide) (by decide)
 obtain ⟨h1, h2, h3, h4, h5, h6, h7, h8⟩ := h.1
 exact ⟨⟨h1.trans hb, h2, h3, h4, (rn_far ho hc h5 (by decide) (by decide)).trans h5, (rn_far ho hc h6 (by decide) (by decide)).trans h6, h7.move hm, h8.move hm⟩, h.2.1.move hm, hn⟩
theorem RnI.write {w w1 w2 : World} {gc ge gb : Nat} {v0 v1 vw : Value} {n0 n1 ws : List ByteArray} {out s : ByteArray} (h : RnI w w1 gc ge gb v0 v1 n0 n1 vw ws out) (hb : Below w.heap.size w1 w2) (ho : Lib.OthersKept 5 (some gb) w1 w2) (hn : Lib.BuilderAtF 45 5 w.heap.size gb (.pointer (some ⟨gb, 0, none⟩)) (Lib.byteCells out.data.toList ++ Lib.strCells s) w2) : RnI w w2 gc ge gb v0 v1 n0 n1 vw ws (out ++ s) :=
 h.kept hb ho (.inr (by rw [← rn_cells]; exact hn))
def impl_RunConsole.l0 : Nat → List ByteArray → Int → Int → List ByteArray → List ByteArray → ByteArray → Option (List ByteArray × List ByteArray × ByteArray × Bool)
 | 0, _, _, _, _, _, _ => none
 | k + 1, ws, z, i, n0, n1, out => if i < z then (if 0 ≤ i then ((impl_command.f k n0 n1 (rdOf ByteArray.empty ws i)).bind fun t => (if out.size + t.2.2.size + 1 ≤ 140737488355328 then (impl_RunConsole.l0 k ws z (wrap64 (i + 1)) t.1 t.2.1 (out ++ (t.2.2 ++ (⟨#[10]⟩ : ByteArray)))) else (none))) else (none)) else ((impl_copyConsole.f n0 n1).bind fun c => (some (c.1, c.2, out, true)))
def impl_RunConsole.f (k : Nat) (l0 l1 : List ByteArray) (line : ByteArray) : Option (List ByteArray × List ByteArray × ByteArray × Bool) :=
 (strings_Split.f line (⟨#[10]⟩ : ByteArray)).bind fun ws => (if 0 < ws.length ∧ ws.length ≤ 4294967296 then (if (line.size : Int) > 4000 then (some (([] : List ByteArray), ([] : List ByteArray), (⟨#[]⟩ : ByteArray), false)) else (if (rdOf ByteArray.empty ws ((ws.length : Int) - 1)).toList = ([] : List UInt8) then ((impl_ValidConsole.f k l0 l1).bind fun t => (if t = true then (impl_RunConsole.l0 k ws ((ws.length : Int) - 1) 0 l0 l1 (⟨#[]⟩ : ByteArray)) else (some (([] : List ByteArray), ([] : List ByteArray), (⟨#[]⟩ : ByteArray), false)))) else (some (([] : List ByteArray), ([] : List ByteArray), (⟨#[]⟩ : ByteArray), false)))) else none)
set_option maxHeartbeats 8000000 in
set_option maxRecDepth 100000 in
theorem impl_RunConsole.calls (k : Nat) (A0 : Option Addr) (c0 : Nat) (l0 : List ByteArray) (A1 : Option Addr) (c1 : Nat) (l1 : List ByteArray) (line : ByteArray) (r0 r1 : List ByteArray) (r2 : ByteArray) (r3 : Bool) (w : World) (hr0 : Kd.C Kd.string w A0 l0.length l0) (hc0 : l0.length ≤ c0) (hr1 : Kd.C Kd.string w A1 l1.length l1) (hc1 : l1.length ≤ c1) (hT : LibW w) (h : impl_RunConsole.f k l0 l1 line = some (r0, r1, r2, r3)) :
 Calls Tryz.prog 9 #[.agg #[.slice A0 l0.length c0, .slice A1 l1.length c1], .string line] w fun e w' => ∃ v0_ v1_ : Value, e = .returned (.tuple #[.agg #[v0_, v1_], .string r2, .bool r3]) ∧ Kd.R Kd.string 9 w' w.heap.size (fun k_ => some k_ ≠ (v1_ : Value).ownBlock) v0_ r0 ∧ Kd.R Kd.string 9 w' w.heap.size (fun k_ => some k_ ≠ (v0_ : Value).ownBlock) v1_ r1 ∧ Below w.heap.size w w' := by
 have hu26 := Tryz.underlying26
 have HR0 := Aside0.mk hr0
 have HC0 := Aside0.mk hc0
 have HR1 := Aside0.mk hr1
 have HC1 := Aside0.mk hc1
 have HT := Aside0.mk hT
 have HB := Aside0.mk (Below.refl w.heap.size w)
 clear hr0 hc0 hr1 hc1 hT
 unfold impl_RunConsole.f at h
 obtain ⟨ws, B0, h⟩ := Option.bind_eq_some_iff.mp h
 have B0_ := Aside0.mk B0
 clear B0
 by_cases e1 : 0 < ws.length ∧ ws.length ≤ 4294967296
 rotate_left
 ·rw [if_neg e1] at h
  cases h
 rw [if_pos e1] at h
 obtain ⟨z, hz⟩ : ∃ y : Nat, (ws.length : Int) - 1 = (y : Int) := ⟨ws.length - 1, by omega⟩
 have hzw : IntKind.i64.wrap ((ws.length : Int) - 1) = (z : Int) := by rw [hz]; exact IntWalk.i64_in _ (by omega)
 rw [hz] at h
 have HZ := Aside0.mk (show 0 ≤ (z : Int) ∧ (z : Int) < (ws.length : Int) ∧ (z : Int) ≤ (ws.length : Int) ∧ (z : Int) ≤ 4294967296 by omega)
 have z0 : (0 ≤ (z : Int)) = True := eq_true (by omega)
 have z1 : ((z : Int) < (ws.length : Int)) = True := eq_true (by omega)
 have z2 : (z < ws.length) = True := eq_true (by omega)
 have hzt : (ws.take z).length = z := by rw [List.length_take]; omega
 clear hz e1
 by_cases e2 : (line.size : Int) > 4000
 ·rw [if_pos e2] at h
  have e2b0 : decide ((line.size : Int) > 4000) = true := decide_eq_true e2
  have e2b1 : decide (4000 < (line.size : Int)) = true := decide_eq_true e2
  have e2b2 : decide (4000 < line.size) = true := decide_eq_true (by omega)
  clear e2
  simp only [Option.some.injEq, Prod.mk.injEq] at h
  obtain ⟨rfl, rfl, rfl, rfl⟩ := h
  go_enter Tryz.func9, Tryz.ntmps9
  go_wp2_with (first | ((with_reducible refine gate_dst (N := 2) rfl ?_); (try (refine gate_guard (by rfl) ?_; dsimp only)); refine box_event ?hg (N := 2) ?hd (cs := #[.slice A0 l0.length c0, .slice A1 l1.length c1]) (t := 26) ?hr ?_; (case hd => rfl); (case hg => rfl); (case hr => exact Qj0_); intro gc hggc wgc hbox hb; have n0_ := Aside0.mk (below_step Qa0_ hb); have HGC := Aside0.mk (show w.heap.size ≤ gc by omega); have n1_ := Aside0.mk (hbox); clear HB; have HB := n0_; have BKgc := n1_; clear n0_ n1_; clear hb hbox hggc) | ((with_reducible refine gate_dst (N := 4) rfl ?_); (try (refine gate_guard (by rfl) ?_; dsimp only)); refine box_event ?hg (N := 4) ?hd (cs := #[.slice none 0 0, .slice none 0 0]) (t := 26) ?hr ?_; (case hd => rfl); (case hg => rfl); (case hr => exact Qj0_); intro ge hgge wge hbox hb; have n0_ := Aside0.mk (below_step Qa0_ hb); have BKC2 := Aside0.mk ((hb.block gc (ra_blt BKgc.out)).trans BKgc.out); have HNE := Aside0.mk (show gc ≠ ge from fun e_ => Qj1_); have HGE := Aside0.mk (show w.heap.size ≤ ge from Qm1_); have n1_ := Aside0.mk (hbox); clear HB; have HB := n0_; have BKge := n1_; clear n0_ n1_; clear hb hbox hgge; have HI := Aside0.mk (show RcI w wge gc ge (.slice A0 l0.length c0) (.slice A1 l1.length c1) l0 l1 from ⟨HB.out, HGC.out, HGE.out, HNE.out, BKC2.out, BKge.out, .inl ⟨A0, c0, rfl, HR0.out, HC0.out⟩, .inl ⟨A1, c1, rfl, HR1.out, HC1.out⟩⟩); clear HGC HGE HNE BKC2 BKgc BKge; have hcc0 : wge.cell? ⟨gc, 0, none⟩ = some (.slice A0 l0.length c0) := (blk_cell HI.out.2.2.2.2.1 0).trans rfl; have hcc1 : wge.cell? ⟨gc, 1, none⟩ = some (.slice A1 l1.length c1) := (blk_cell HI.out.2.2.2.2.1 1).trans rfl) | (go_at_call 18; (with_reducible refine (strings_Split.calls line (⟨#[10]⟩ : ByteArray) ws _ B0_.out).mono ?_); rintro e w1 ⟨vw, rfl, hr, hb⟩; obtain ⟨Aw, cw, ew, hlw, hCw⟩ := Kd.R_reads hr; subst ew; have HLW := Aside0.mk hlw; have HI2 := Aside0.mk (HI.out.below hb); have HW := Aside0.mk (show RcR w w1 (.slice Aw ws.length cw) ws from .inr (Kd.R_lower hr HI.out.1.size)); clear HI hr hb hlw; clear hCw) | ((with_reducible refine gate_store (t := 26) (p := 4) rfl ?_); refine ra_store ?a1 ?a2 26 (.tmp 4) (.tmp 34) ?a3 ge #[.slice none 0 0, .slice none 0 0] ?a4 ?a5 26 #[.slice none 0 0, .slice none 0 0] HI2.out.2.2.2.2.2.1 ?a6 ?a7 ?a8 ?_; (case a1 => rfl); (case a2 => rfl); (case a3 => rfl); (case a4 => rfl); (case a5 => rfl); (case a6 => rfl); (case a7 => rfl); (case a8 => exact Qp0_); intro wz hs1 hs2 hs3; have HS1 := Aside0.mk hs1; have HS2 := Aside0.mk hs2; have HS3 := Aside0.mk (hs3 _ _ HI2.out.1 HI2.out.2.2.1); skip; clear hs1 hs2 hs3))
  refine bodyPost_ret (rc_results rfl _ _ ge 26 #[.slice none 0 0, .slice none 0 0] (0, 0) _ _ _ rfl HS1.out Tryz.underlying26 rfl Ql0_ rfl rfl) rfl ?_; exact ⟨.slice none 0 0, .slice none 0 0, rfl, rc_nil _ _ _, rc_nil _ _ _, HS3.out⟩
 rw [if_neg e2] at h
 have e2b0 : decide ((line.size : Int) > 4000) = false := decide_eq_false e2
 have e2b1 : decide (4000 < (line.size : Int)) = false := decide_eq_false e2
 have e2b2 : decide (4000 < line.size) = false := decide_eq_false (by omega)
 clear e2
 obtain ⟨la, hla⟩ : ∃ y : ByteArray, rdOf ByteArray.empty ws (z : Int) = y := ⟨_, rfl⟩
 rw [hla] at h
 have HLA := Aside0.mk hla
 clear hla
 by_cases e3 : la.toList = ([] : List UInt8)
 rotate_left
 ·rw [if_neg e3] at h
  have e3b0 : (la.toList == ([] : List UInt8)) = false := beq_eq_false_iff_ne.mpr e3
  have e3b1 : (la.toList != ([] : List UInt8)) = true := bne_iff_ne.mpr e3
  clear e3
  simp only [Option.some.injEq, Prod.mk.injEq] at h
  obtain ⟨rfl, rfl, rfl, rfl⟩ := h
  go_enter Tryz.func9, Tryz.ntmps9
  go_wp2_with (first | ((with_reducible refine gate_dst (N := 2) rfl ?_); (try (refine gate_guard (by rfl) ?_; dsimp only)); refine box_event ?hg (N := 2) ?hd (cs := #[.slice A0 l0.length c0, .slice A1 l1.length c1]) (t := 26) ?hr ?_; (case hd => rfl); (case hg => rfl); (case hr => exact Qj0_); intro gc hggc wgc hbox hb; have n0_ := Aside0.mk (below_step Qa0_ hb); have HGC := Aside0.mk (show w.heap.size ≤ gc by omega); have n1_ := Aside0.mk (hbox); clear HB; have HB := n0_; have BKgc := n1_; clear n0_ n1_; clear hb hbox hggc) | ((with_reducible refine gate_dst (N := 4) rfl ?_); (try (refine gate_guard (by rfl) ?_; dsimp only)); refine box_event ?hg (N := 4) ?hd (cs := #[.slice none 0 0, .slice none 0 0]) (t := 26) ?hr ?_; (case hd => rfl); (case hg => rfl); (case hr => exact Qj0_); intro ge hgge wge hbox hb; have n0_ := Aside0.mk (below_step Qa0_ hb); have BKC2 := Aside0.mk ((hb.block gc (ra_blt BKgc.out)).trans BKgc.out); have HNE := Aside0.mk (show gc ≠ ge from fun e_ => Qj1_); have HGE := Aside0.mk (show w.heap.size ≤ ge from Qm1_); have n1_ := Aside0.mk (hbox); clear HB; have HB := n0_; have BKge := n1_; clear n0_ n1_; clear hb hbox hgge; have HI := Aside0.mk (show RcI w wge gc ge (.slice A0 l0.length c0) (.slice A1 l1.length c1) l0 l1 from ⟨HB.out, HGC.out, HGE.out, HNE.out, BKC2.out, BKge.out, .inl ⟨A0, c0, rfl, HR0.out, HC0.out⟩, .inl ⟨A1, c1, rfl, HR1.out, HC1.out⟩⟩); clear HGC HGE HNE BKC2 BKgc BKge; have hcc0 : wge.cell? ⟨gc, 0, none⟩ = some (.slice A0 l0.length c0) := (blk_cell HI.out.2.2.2.2.1 0).trans rfl; have hcc1 : wge.cell? ⟨gc, 1, none⟩ = some (.slice A1 l1.length c1) := (blk_cell HI.out.2.2.2.2.1 1).trans rfl) | (go_at_call 18; (with_reducible refine (strings_Split.calls line (⟨#[10]⟩ : ByteArray) ws _ B0_.out).mono ?_); rintro e w1 ⟨vw, rfl, hr, hb⟩; obtain ⟨Aw, cw, ew, hlw, hCw⟩ := Kd.R_reads hr; subst ew; have HLW := Aside0.mk hlw; have HI2 := Aside0.mk (HI.out.below hb); have HW := Aside0.mk (show RcR w w1 (.slice Aw ws.length cw) ws from .inr (Kd.R_lower hr HI.out.1.size)); clear HI hr hb hlw; obtain ⟨adw, edw, hxw⟩ := Kd.at_string hCw (z : Int) HZ.out.1 HZ.out.2.1; cases edw; rw [HLA.out] at hxw; have hxw1 : w1.cell? (adw.add z) = some (.string la) := hxw; clear hCw; have hcc0 : w1.cell? ⟨gc, 0, none⟩ = some (.slice A0 l0.length c0) := (blk_cell HI2.out.2.2.2.2.1 0).trans rfl; have hcc1 : w1.cell? ⟨gc, 1, none⟩ = some (.slice A1 l1.length c1) := (blk_cell HI2.out.2.2.2.2.1 1).trans rfl; obtain ⟨iS, hiS, _, hzS, _⟩ := info_parts info9; obtain ⟨hcut0, hcq, hcc⟩ := print_take_of (P := Tryz.prog) Value.string (⟨#[]⟩ : ByteArray) 24 9 .i64 Tryz.underlying24 hiS hzS (some adw) cw ws (z : Int) HZ.out.1 HZ.out.2.2.1 HLW.out; rw [show ((z : Int)).toNat = z from rfl, hzt] at hcut0; clear hcq hcc hiS hzS) | ((with_reducible refine gate_store (t := 26) (p := 4) rfl ?_); refine ra_store ?a1 ?a2 26 (.tmp 4) (.tmp 34) ?a3 ge #[.slice none 0 0, .slice none 0 0] ?a4 ?a5 26 #[.slice none 0 0, .slice none 0 0] HI2.out.2.2.2.2.2.1 ?a6 ?a7 ?a8 ?_; (case a1 => rfl); (case a2 => rfl); (case a3 => rfl); (case a4 => rfl); (case a5 => rfl); (case a6 => rfl); (case a7 => rfl); (case a8 => exact Qp0_); intro wz hs1 hs2 hs3; have HS1 := Aside0.mk hs1; have HS2 := Aside0.mk hs2; have HS3 := Aside0.mk (hs3 _ _ HI2.out.1 HI2.out.2.2.1); skip; clear hs1 hs2 hs3))
  refine bodyPost_ret (rc_results rfl _ _ ge 26 #[.slice none 0 0, .slice none 0 0] (0, 0) _ _ _ rfl HS1.out Tryz.underlying26 rfl Ql0_ rfl rfl) rfl ?_; exact ⟨.slice none 0 0, .slice none 0 0, rfl, rc_nil _ _ _, rc_nil _ _ _, HS3.out⟩
 rw [if_pos e3] at h
 have e3b0 : (la.toList == ([] : List UInt8)) = true := beq_iff_eq.mpr e3
 have e3b1 : (la.toList != ([] : List UInt8)) = false := bne_eq_false_iff_eq.mpr e3
 clear e3
 obtain ⟨t, B1, h⟩ := Option.bind_eq_some_iff.mp h
 have B1_ := Aside0.mk B1
 clear B1
 cases t with
 | false =>
  rw [if_neg (fun h_ => Bool.false_ne_true h_)] at h
  simp only [Option.some.injEq, Prod.mk.injEq] at h
  obtain ⟨rfl, rfl, rfl, rfl⟩ := h
  go_enter Tryz.func9, Tryz.ntmps9
  go_wp2_with (first | ((with_reducible refine gate_dst (N := 2) rfl ?_); (try (refine gate_guard (by rfl) ?_; dsimp only)); refine box_event ?hg (N := 2) ?hd (cs := #[.slice A0 l0.length c0, .slice A1 l1.length c1]) (t := 26) ?hr ?_; (case hd => rfl); (case hg => rfl); (case hr => exact Qj0_); intro gc hggc wgc hbox hb; have n0_ := Aside0.mk (below_step Qa0_ hb); have HGC := Aside0.mk (show w.heap.size ≤ gc by omega); have n1_ := Aside0.mk (hbox); clear HB; have HB := n0_; have BKgc := n1_; clear n0_ n1_; clear hb hbox hggc) | ((with_reducible refine gate_dst (N := 4) rfl ?_); (try (refine gate_guard (by rfl) ?_; dsimp only)); refine box_event ?hg (N := 4) ?hd (cs := #[.slice none 0 0, .slice none 0 0]) (t := 26) ?hr ?_; (case hd => rfl); (case hg => rfl); (case hr => exact Qj0_); intro ge hgge wge hbox hb; have n0_ := Aside0.mk (below_step Qa0_ hb); have BKC2 := Aside0.mk ((hb.block gc (ra_blt BKgc.out)).trans BKgc.out); have HNE := Aside0.mk (show gc ≠ ge from fun e_ => Qj1_); have HGE := Aside0.mk (show w.heap.size ≤ ge from Qm1_); have n1_ := Aside0.mk (hbox); clear HB; have HB := n0_; have BKge := n1_; clear n0_ n1_; clear hb hbox hgge; have HI := Aside0.mk (show RcI w wge gc ge (.slice A0 l0.length c0) (.slice A1 l1.length c1) l0 l1 from ⟨HB.out, HGC.out, HGE.out, HNE.out, BKC2.out, BKge.out, .inl ⟨A0, c0, rfl, HR0.out, HC0.out⟩, .inl ⟨A1, c1, rfl, HR1.out, HC1.out⟩⟩); clear HGC HGE HNE BKC2 BKgc BKge; have hcc0 : wge.cell? ⟨gc, 0, none⟩ = some (.slice A0 l0.length c0) := (blk_cell HI.out.2.2.2.2.1 0).trans rfl; have hcc1 : wge.cell? ⟨gc, 1, none⟩ = some (.slice A1 l1.length c1) := (blk_cell HI.out.2.2.2.2.1 1).trans rfl) | (go_at_call 18; (with_reducible refine (strings_Split.calls line (⟨#[10]⟩ : ByteArray) ws _ B0_.out).mono ?_); rintro e w1 ⟨vw, rfl, hr, hb⟩; obtain ⟨Aw, cw, ew, hlw, hCw⟩ := Kd.R_reads hr; subst ew; have HLW := Aside0.mk hlw; have HI2 := Aside0.mk (HI.out.below hb); have HW := Aside0.mk (show RcR w w1 (.slice Aw ws.length cw) ws from .inr (Kd.R_lower hr HI.out.1.size)); clear HI hr hb hlw; obtain ⟨adw, edw, hxw⟩ := Kd.at_string hCw (z : Int) HZ.out.1 HZ.out.2.1; cases edw; rw [HLA.out] at hxw; have hxw1 : w1.cell? (adw.add z) = some (.string la) := hxw; clear hCw; have hcc0 : w1.cell? ⟨gc, 0, none⟩ = some (.slice A0 l0.length c0) := (blk_cell HI2.out.2.2.2.2.1 0).trans rfl; have hcc1 : w1.cell? ⟨gc, 1, none⟩ = some (.slice A1 l1.length c1) := (blk_cell HI2.out.2.2.2.2.1 1).trans rfl; obtain ⟨iS, hiS, _, hzS, _⟩ := info_parts info9; obtain ⟨hcut0, hcq, hcc⟩ := print_take_of (P := Tryz.prog) Value.string (⟨#[]⟩ : ByteArray) 24 9 .i64 Tryz.underlying24 hiS hzS (some adw) cw ws (z : Int) HZ.out.1 HZ.out.2.2.1 HLW.out; rw [show ((z : Int)).toNat = z from rfl, hzt] at hcut0; clear hcq hcc hiS hzS) | (go_at_call 8; (with_reducible refine (impl_ValidConsole.calls k A0 c0 l0 A1 c1 l1 false _ ?s1 ?s2 ?s3 ?s4 B1_.out).mono ?_); (case s1 => exact Kd.C_below HR0.out HI2.out.1); (case s2 => exact HC0.out); (case s3 => exact Kd.C_below HR1.out HI2.out.1); (case s4 => exact HC1.out); rintro e w2 ⟨rfl, hb⟩; have HI3 := Aside0.mk (HI2.out.below hb); have HW3 := Aside0.mk (HW.out.below hb); have HB5 := Aside0.mk (Below.refl w2.heap.size w2); clear hb) | ((with_reducible refine gate_store (t := 26) (p := 4) rfl ?_); refine ra_store ?a1 ?a2 26 (.tmp 4) (.tmp 34) ?a3 ge #[.slice none 0 0, .slice none 0 0] ?a4 ?a5 26 #[.slice none 0 0, .slice none 0 0] HI3.out.2.2.2.2.2.1 ?a6 ?a7 ?a8 ?_; (case a1 => rfl); (case a2 => rfl); (case a3 => rfl); (case a4 => rfl); (case a5 => rfl); (case a6 => rfl); (case a7 => rfl); (case a8 => exact Qp0_); intro wz hs1 hs2 hs3; have HS1 := Aside0.mk hs1; have HS2 := Aside0.mk hs2; have HS3 := Aside0.mk (hs3 _ _ HI3.out.1 HI3.out.2.2.1); skip; clear hs1 hs2 hs3))
  refine bodyPost_ret (rc_results rfl _ _ ge 26 #[.slice none 0 0, .slice none 0 0] (0, 0) _ _ _ rfl HS1.out Tryz.underlying26 rfl Ql0_ rfl rfl) rfl ?_; exact ⟨.slice none 0 0, .slice none 0 0, rfl, rc_nil _ _ _, rc_nil _ _ _, HS3.out⟩
 | true =>
  rw [if_pos rfl] at h
  have H' := Aside0.mk h
  clear h
  go_enter Tryz.func9, Tryz.ntmps9
  go_wp2_with (first | ((with_reducible refine gate_dst (N := 2) rfl ?_); (try (refine gate_guard (by rfl) ?_; dsimp only)); refine box_event ?hg (N := 2) ?hd (cs := #[.slice A0 l0.length c0, .slice A1 l1.length c1]) (t := 26) ?hr ?_; (case hd => rfl); (case hg => rfl); (case hr => exact Qj0_); intro gc hggc wgc hbox hb; have n0_ := Aside0.mk (below_step Qa0_ hb); have HGC := Aside0.mk (show w.heap.size ≤ gc by omega); have n1_ := Aside0.mk (hbox); clear HB; have HB := n0_; have BKgc := n1_; clear n0_ n1_; clear hb hbox hggc) | ((with_reducible refine gate_dst (N := 4) rfl ?_); (try (refine gate_guard (by rfl) ?_; dsimp only)); refine box_event ?hg (N := 4) ?hd (cs := #[.slice none 0 0, .slice none 0 0]) (t := 26) ?hr ?_; (case hd => rfl); (case hg => rfl); (case hr => exact Qj0_); intro ge hgge wge hbox hb; have n0_ := Aside0.mk (below_step Qa0_ hb); have BKC2 := Aside0.mk ((hb.block gc (ra_blt BKgc.out)).trans BKgc.out); have HNE := Aside0.mk (show gc ≠ ge from fun e_ => Qj1_); have HGE := Aside0.mk (show w.heap.size ≤ ge from Qm1_); have n1_ := Aside0.mk (hbox); clear HB; have HB := n0_; have BKge := n1_; clear n0_ n1_; clear hb hbox hgge; have HI := Aside0.mk (show RcI w wge gc ge (.slice A0 l0.length c0) (.slice A1 l1.length c1) l0 l1 from ⟨HB.out, HGC.out, HGE.out, HNE.out, BKC2.out, BKge.out, .inl ⟨A0, c0, rfl, HR0.out, HC0.out⟩, .inl ⟨A1, c1, rfl, HR1.out, HC1.out⟩⟩); clear HGC HGE HNE BKC2 BKgc BKge; have hcc0 : wge.cell? ⟨gc, 0, none⟩ = some (.slice A0 l0.length c0) := (blk_cell HI.out.2.2.2.2.1 0).trans rfl; have hcc1 : wge.cell? ⟨gc, 1, none⟩ = some (.slice A1 l1.length c1) := (blk_cell HI.out.2.2.2.2.1 1).trans rfl) | (go_at_call 18; (with_reducible refine (strings_Split.calls line (⟨#[10]⟩ : ByteArray) ws _ B0_.out).mono ?_); rintro e w1 ⟨vw, rfl, hr, hb⟩; obtain ⟨Aw, cw, ew, hlw, hCw⟩ := Kd.R_reads hr; subst ew; have HLW := Aside0.mk hlw; have HI2 := Aside0.mk (HI.out.below hb); have HW := Aside0.mk (show RcR w w1 (.slice Aw ws.length cw) ws from .inr (Kd.R_lower hr HI.out.1.size)); clear HI hr hb hlw; obtain ⟨adw, edw, hxw⟩ := Kd.at_string hCw (z : Int) HZ.out.1 HZ.out.2.1; cases edw; rw [HLA.out] at hxw; have hxw1 : w1.cell? (adw.add z) = some (.string la) := hxw; clear hCw; have hcc0 : w1.cell? ⟨gc, 0, none⟩ = some (.slice A0 l0.length c0) := (blk_cell HI2.out.2.2.2.2.1 0).trans rfl; have hcc1 : w1.cell? ⟨gc, 1, none⟩ = some (.slice A1 l1.length c1) := (blk_cell HI2.out.2.2.2.2.1 1).trans rfl; obtain ⟨iS, hiS, _, hzS, _⟩ := info_parts info9; obtain ⟨hcut0, hcq, hcc⟩ := print_take_of (P := Tryz.prog) Value.string (⟨#[]⟩ : ByteArray) 24 9 .i64 Tryz.underlying24 hiS hzS (some adw) cw ws (z : Int) HZ.out.1 HZ.out.2.2.1 HLW.out; rw [show ((z : Int)).toNat = z from rfl, hzt] at hcut0; clear hcq hcc hiS hzS) | (go_at_call 8; (with_reducible refine (impl_ValidConsole.calls k A0 c0 l0 A1 c1 l1 true _ ?s1 ?s2 ?s3 ?s4 B1_.out).mono ?_); (case s1 => exact Kd.C_below HR0.out HI2.out.1); (case s2 => exact HC0.out); (case s3 => exact Kd.C_below HR1.out HI2.out.1); (case s4 => exact HC1.out); rintro e w2 ⟨rfl, hb⟩; have HI3 := Aside0.mk (HI2.out.below hb); have HW3 := Aside0.mk (HW.out.below hb); have HB5 := Aside0.mk (Below.refl w2.heap.size w2); clear hb) | ((with_reducible refine gate_dst (N := 9) rfl ?_); (try (refine gate_guard (by rfl) ?_; dsimp only)); refine box_event ?hg (N := 9) ?hd (cs := #[.pointer none, .slice none 0 0]) (t := 45) ?hr ?_; (case hd => rfl); (case hg => rfl); (case hr => exact Qj0_); intro gb hggb w4 hbox hb; have n0_ := Aside0.mk (below_step (by repeat (first | (with_reducible first | exact HB5.out | apply below_alloc | apply pw_below_drewN | apply below_drew1) | exact HB5.out)) hb); have HG9 := Aside0.mk hggb; have n1_ := Aside0.mk (hbox); clear HB5; have HB5 := n0_; have BKgb := n1_; clear n0_ n1_; clear hb hbox hggb) | ((with_reducible refine gate_store (t := 45) (p := 9) rfl ?_); refine ra_store ?b1 ?b2 45 (.tmp 9) (.tmp 35) ?b3 gb #[.pointer none, .slice none 0 0] ?b4 ?b5 45 #[.pointer none, .slice none 0 0] BKgb.out ?b6 ?b7 ?b8 ?_; (case b1 => rfl); (case b2 => rfl); (case b3 => rfl); (case b4 => rfl); (case b5 => rfl); (case b6 => rfl); (case b7 => rfl); (case b8 => exact Qp0_); intro w5 hs1 hs2 hs3; have HB6 := Aside0.mk (hs3 _ _ HB5.out (Nat.le_of_eq HG9.out.symm)); have HI5 := Aside0.mk (show RnI w w5 gc ge gb (.slice A0 l0.length c0) (.slice A1 l1.length c1) l0 l1 (.slice (some adw) ws.length cw) ws (⟨#[]⟩ : ByteArray) from ⟨HI3.out.below HB6.out, HW3.out.below HB6.out, .inl (Lib.BuilderAtF.of ⟨Nat.le_trans HI3.out.1.size (Nat.le_of_eq HG9.out.symm), _, hs1, World.ownsRow_nil _ _ _ _, by simp [Value.ownBlock]⟩)⟩); clear hs1 hs2 hs3))
  go_loopg [40] k (fun kq v40 w' => ∃ (i : Int) (n0 n1 : List ByteArray) (v0 v1 : Value) (out : ByteArray), v40 = .int .i64 i ∧ Aside0 (impl_RunConsole.l0 kq ws (z : Int) i n0 n1 out = some (r0, r1, r2, r3)) ∧ Aside0 (kq ≤ k) ∧ Aside0 (RnI w w' gc ge gb v0 v1 n0 n1 (.slice (some adw) ws.length cw) ws out))
  case atStart => exact ⟨0, _, _, _, _, _, rfl, H', ⟨Nat.le_refl _⟩, ⟨HI5.out⟩⟩
  case round =>
   clear H' HI5
   obtain ⟨i, n0, n1, v0, v1, out, rfl, HA, HK1, HI⟩ := hrel
   cases gk with
   | zero => exact absurd HA.out (by simp [impl_RunConsole.l0])
   | succ k1 =>
    have H := HA.out
    clear HA
    simp only [impl_RunConsole.l0] at H
    obtain ⟨A2, c2, ev0, hC2, hl2⟩ := HI.out.1.2.2.2.2.2.2.1.reads HI.out.1.1
    obtain ⟨A3, c3, ev1, hC3, hl3⟩ := HI.out.1.2.2.2.2.2.2.2.reads HI.out.1.1
    subst ev0
    subst ev1
    have HR2 := Aside0.mk hC2
    have HC2 := Aside0.mk hl2
    have HR3 := Aside0.mk hC3
    have HC3 := Aside0.mk hl3
    clear hC2 hl2 hC3 hl3
    have hcc0 : wr.cell? ⟨gc, 0, none⟩ = some (.slice A2 n0.length c2) := (blk_cell HI.out.1.2.2.2.2.1 0).trans rfl
    have hcc1 : wr.cell? ⟨gc, 1, none⟩ = some (.slice A3 n1.length c3) := (blk_cell HI.out.1.2.2.2.2.1 1).trans rfl
    by_cases d1 : i < (z : Int)
    rotate_left
    ·rw [if_neg d1] at H
     have d1b0 : decide (i < (z : Int)) = false := decide_eq_false d1
     clear d1
     obtain ⟨⟨m0, m1⟩, B3, H⟩ := Option.bind_eq_some_iff.mp H
     simp only [Option.some.injEq, Prod.mk.injEq] at H
     obtain ⟨rfl, rfl, rfl, rfl⟩ := H
     have B3_ := Aside0.mk B3
     clear B3
     go_wp2_with (first | (go_at_call 15; (with_reducible refine (impl_copyConsole.calls A2 c2 n0 A3 c3 n1 m0 m1 _ ?p1 ?p2 ?p3 ?p4 B3_.out).mono ?_); (case p1 => exact HR2.out); (case p2 => exact HC2.out); (case p3 => exact HR3.out); (case p4 => exact HC3.out); rintro e w6 ⟨x0, x1, rfl, hr0, hr1, hb⟩; obtain ⟨Ax, cx, ex⟩ := Kd.R_slice hr0; subst ex; obtain ⟨Ay, cy, ey⟩ := Kd.R_slice hr1; subst ey; have HX0 := Aside0.mk hr0; have HX1 := Aside0.mk hr1; have HI6 := Aside0.mk (HI.out.below hb); have HX2 := Aside0.mk HI.out.1.1.size; clear hr0 hr1 hb) | (go_at_call 20; refine (rn_string_k w.heap.size gb out.data.toList _ ?u1 ?u2).mono ?_; (case u1 => exact HI6.out.2.2); (case u2 => exact HI6.out.1.1.size); rintro e w7 ⟨rfl, hn, hb, ho⟩; obtain ⟨cB_, hcB_⟩ := rn_block HI6.out.2.2; have HY0 := Aside0.mk (rc_row HX0.out (fun k_ c_ h_ => rn_far ho hcB_ h_ (by decide) (by decide))); have HY1 := Aside0.mk (rc_row HX1.out (fun k_ c_ h_ => rn_far ho hcB_ h_ (by decide) (by decide))); have HJ7 := Aside0.mk (HI6.out.kept hb ho hn).1; clear hn hb ho hcB_) | ((with_reducible refine gate_store (t := 26) (p := 4) rfl ?_); refine ra_store ?e1 ?e2 26 (.tmp 4) (.tmp 56) ?e3 ge #[.slice Ax m0.length cx, .slice Ay m1.length cy] ?e4 ?e5 26 #[.slice none 0 0, .slice none 0 0] HJ7.out.2.2.2.2.2.1 ?e6 ?e7 ?e8 ?_; (case e1 => rfl); (case e2 => rfl); (case e3 => rfl); (case e4 => rfl); (case e5 => rfl); (case e6 => rfl); (case e7 => rfl); (case e8 => exact Qp0_); intro wz hs1 hs2 hs3; have HS1 := Aside0.mk hs1; have HS2 := Aside0.mk hs2; have HS3 := Aside0.mk (hs3 _ _ HJ7.out.1 HJ7.out.2.2.1); skip; clear hs1 hs2 hs3))
     refine bodyPost_ret (rc_results rfl _ _ ge 26 #[.slice Ax m0.length cx, .slice Ay m1.length cy] (0, 0) _ _ _ rfl HS1.out Tryz.underlying26 rfl Ql0_ rfl rfl) rfl ?_; exact ⟨.slice Ax m0.length cx, .slice Ay m1.length cy, Qf0_, Kd.R_lower (rc_row HY0.out (fun k_ c_ h_ => HS2.out k_ (blk_ne h_ HJ7.out.2.2.2.2.2.1 (by decide)))) HX2.out, Kd.R_lower (rc_row HY1.out (fun k_ c_ h_ => HS2.out k_ (blk_ne h_ HJ7.out.2.2.2.2.2.1 (by decide)))) HX2.out, HS3.out⟩
    rw [if_pos d1] at H
    by_cases d2 : 0 ≤ i
    rotate_left
    ·rw [if_neg d2] at H
     cases H
    rw [if_pos d2] at H
    obtain ⟨li, hli⟩ : ∃ y : ByteArray, rdOf ByteArray.empty ws i = y := ⟨_, rfl⟩
    rw [hli] at H
    obtain ⟨⟨t0, t1, tx⟩, B2, H⟩ := Option.bind_eq_some_iff.mp H
    have B2_ := Aside0.mk B2
    clear B2
    by_cases d3 : out.size + tx.size + 1 ≤ 140737488355328
    rotate_left
    ·rw [if_neg d3] at H
     cases H
    rw [if_pos d3] at H
    have H' := Aside0.mk H
    have HS := Aside0.mk d3
    have f1 : (9223372036854775807 < tx.size + 1) = False := eq_false (by omega)
    obtain ⟨ad2, ed2, hy2⟩ := Kd.at_string (HI.out.2.1.readC HI.out.1.1) i d2 (by have := HZ.out; omega)
    rw [← Option.some.inj ed2, hli] at hy2
    clear ed2 hli H d3
    have d1b0 : decide (i < (z : Int)) = true := decide_eq_true d1
    have q1 := eq_true d1
    have p1 := eq_true d2
    clear d1 d2
    go_wp2_with (first | (go_at_call 14; (with_reducible refine (impl_command.calls k1 A2 c2 n0 A3 c3 n1 li t0 t1 tx _ ?q1 ?q2 ?q3 ?q4 ?q5 B2_.out).mono ?_); (case q1 => exact HR2.out); (case q2 => exact HC2.out); (case q3 => exact HR3.out); (case q4 => exact HC3.out); (case q5 => exact tabBelow HT.out HI.out.1.1); rintro e w3 ⟨va, vb, rfl, hab, hb⟩; have hrr := RcI.come HI.out.1 hb hab; have HI3 := Aside0.mk (HI.out.below hb); obtain ⟨Aa, ca, ea, hCa, hla⟩ := hrr.1.reads HI3.out.1.1; subst ea; obtain ⟨Ab, cb, eb, hCb, hlb⟩ := hrr.2.reads HI3.out.1.1; subst eb; have HRR := Aside0.mk hrr; have HB3 := Aside0.mk (Below.refl w3.heap.size w3); clear hrr hla hlb hCa hCb hab hb) | ((with_reducible refine gate_dst (N := 12) rfl ?_); (try (refine gate_guard (by rfl) ?_; dsimp only)); refine box_event ?hg (N := 12) ?hd (cs := #[.slice none 0 0, .slice none 0 0]) (t := 26) ?hr ?_; (case hd => rfl); (case hg => rfl); (case hr => exact Qj0_); intro g12 hgg12 w4 hbox hb; have n0_ := Aside0.mk (below_step Qd1_ hb); have HG12 := Aside0.mk hgg12; have n1_ := Aside0.mk (hbox); clear HB3; have HB3 := n0_; have BKg12 := n1_; clear n0_ n1_; clear hb hbox hgg12) | ((with_reducible refine gate_store (t := 26) (p := 12) rfl ?_); refine ra_store ?b1 ?b2 26 (.tmp 12) (.tmp 48) ?b3 g12 #[.slice Aa t0.length ca, .slice Ab t1.length cb] ?b4 ?b5 26 #[.slice none 0 0, .slice none 0 0] BKg12.out ?b6 ?b7 ?b8 ?_; (case b1 => rfl); (case b2 => rfl); (case b3 => rfl); (case b4 => rfl); (case b5 => rfl); (case b6 => rfl); (case b7 => rfl); (case b8 => exact Qp0_); intro w5 hs1 hs2 hs3; have HB5 := Aside0.mk (hs3 _ _ HB3.out (Nat.le_of_eq HG12.out.symm)); have HI5 := Aside0.mk (HI3.out.below HB5.out); have HRA := Aside0.mk (HRR.out.1.below HB5.out); have HRB := Aside0.mk (HRR.out.2.below HB5.out); have hcd0 : w5.cell? ⟨g12, 0, none⟩ = some (.slice Aa t0.length ca) := (blk_cell hs1 0).trans rfl; have hcd1 : w5.cell? ⟨g12, 1, none⟩ = some (.slice Ab t1.length cb) := (blk_cell hs1 1).trans rfl; clear hs1 hs2 hs3) | ((with_reducible refine gate_store (t := 26) (p := 2) rfl ?_); refine ra_store ?d1 ?d2 26 (.tmp 2) (.tmp 50) ?d3 gc #[.slice Aa t0.length ca, .slice Ab t1.length cb] ?d4 ?d5 26 #[.slice A2 n0.length c2, .slice A3 n1.length c3] HI5.out.1.2.2.2.2.1 ?d6 ?d7 ?d8 ?_; (case d1 => rfl); (case d2 => rfl); (case d3 => rfl); (case d4 => rfl); (case d5 => rfl); (case d6 => rfl); (case d7 => rfl); (case d8 => exact Qp0_); intro w6 hs1 hs2 hs3; have HI6 := Aside0.mk (HI5.out.set HRA.out HRB.out hs1 hs2 hs3); clear hs1 hs2 hs3) | (go_at_call 19; refine (rn_write_k w.heap.size gb (Lib.byteCells out.data.toList) (tx ++ (⟨#[10]⟩ : ByteArray)) _ ?u1 ?u2 ?u3).mono ?_; (case u1 => exact HI6.out.2.2); (case u2 => rw [rn_len out, ByteArray.size_append]; have h_ := HS.out; exact (show out.size + (tx.size + 1) ≤ 140737488355328 by omega)); (case u3 => exact HI6.out.1.1.size); rintro e w7 ⟨rfl, hbu, hb, ho⟩; have HI7 := Aside0.mk (HI6.out.write hb ho hbu); clear hbu hb ho))
    go_roundg k1
    case measure => have := HK1.out; omega
    case rel => exact ⟨wrap64 (i + 1), t0, t1, _, _, out ++ (tx ++ (⟨#[10]⟩ : ByteArray)), (by first | rfl | (simp; done) | (simp [*]; done) | (simp [show (⟨#[10]⟩ : ByteArray).size = 1 from rfl]; done)), H', ⟨Qs0_⟩, ⟨HI7.out⟩⟩
def FnI (w w' : World) (g5 g9 : Nat) (x0 x1 : Value) (q0 q1 : List ByteArray) (v0 v1 : Value) (n0 n1 : List ByteArray) (vw : Value) (ws : List ByteArray) : Prop :=
 Below w.heap.size w w' ∧ w.heap.size ≤ g9 ∧ g5 ≠ g9 ∧ w'.heap[g5]? = some (.cells #[x0, x1] 26 (0, 0)) ∧ w'.heap[g9]? = some (.cells #[v0, v1] 26 (0, 0)) ∧ RcR w w' x0 q0 ∧ RcR w w' x1 q1 ∧ RcR w w' v0 n0 ∧ RcR w w' v1 n1 ∧ RcR w w' vw ws
theorem FnI.below {w w1 w2 : World} {g5 g9 : Nat} {x0 x1 v0 v1 vw : Value} {q0 q1 n0 n1 ws : List ByteArray} (h : FnI w w1 g5 g9 x0 x1 q0 q1 v0 v1 n0 n1 vw ws) (hb : Below w1.heap.size w1 w2) : FnI w w2 g5 g9 x0 x1 q0 q1 v0 v1 n0 n1 vw ws := by
 obtain ⟨h1, h2, h3, h4, h5, h6, h7, h8, h9, h10⟩ := h
 exact ⟨below_step h1 hb, h2, h3, (hb.block g5 (ra_blt h4)).trans h4, (hb.block g9 (ra_blt h5)).trans h5, h6.below hb, h7.below hb, h8.below hb, h9.below hb, h10.below hb⟩
theorem FnI.set {w w1 w2 : World} {g5 g9 : Nat} {x0 x1 v0 v1 vw u0 u1 : Value} {q0 q1 n0 n1 ws m0 m1 : List ByteArray} (h : FnI w w1 g5 g9 x0 x1 q0 q1 v0 v1 n0 n1 vw ws) (r0 : RcR w w1 u0 m0) (r1 : RcR w w1 u1 m1) (hs1 : w2.heap[g9]? = some (.cells #[u0, u1] 26 (0, 0))) (hs2 : ∀ k, k ≠ g9 → w2.heap[k]? = w1.heap[k]?) (hs3 : ∀ B w0, Below B w0 w1 → B ≤ g9 → Below B w0 w2) : FnI w w2 g5 g9 x0 x1 q0 q1 u0 u1 m0 m1 vw ws := by
 obtain ⟨h1, h2, h3, h4, h5, h6, h7, h8, h9, h10⟩ := h
 have hm : ∀ (k : Nat) (c : Array Value), w1.heap[k]? = some (.cells c 9 (0, 0)) → w2.heap[k]? = w1.heap[k]? := fun k c hc => hs2 k (blk_ne hc h5 (by decide))
 exact ⟨hs3 _ _ h1 h2, h2, h3, (hs2 g5 h3).trans h4, hs1, h6.move hm, h7.move hm, r0.move hm, r1.move hm, h10.move hm⟩
theorem FnI.far {w w1 w2 : World} {g5 g9 g : Nat} {x0 x1 v0 v1 vw : Value} {q0 q1 n0 n1 ws : List ByteArray} {c : Array Value} (h : FnI w w1 g5 g9 x0 x1 q0 q1 v0 v1 n0 n1 vw ws) (hg : w1.heap[g]? = some (.cells c 26 (0, 0))) (h5 : g5 ≠ g) (h9 : g9 ≠ g) (hw : w.heap.size ≤ g) (hs2 : ∀ k, k ≠ g → w2.heap[k]? = w1.heap[k]?) (hs3 : ∀ B w0, Below B w0 w1 → B ≤ g → Below B w0 w2) : FnI w w2 g5 g9 x0 x1 q0 q1 v0 v1 n0 n1 vw ws := by
 obtain ⟨h1, h2, h3, h4, h5', h6, h7, h8, h9', h10⟩ := h
 have hm : ∀ (k : Nat) (c : Array Value), w1.heap[k]? = some (.cells c 9 (0, 0)) → w2.heap[k]? = w1.heap[k]? := fun k c hc => hs2 k (blk_ne hc hg (by decide))
 exact ⟨hs3 _ _ h1 hw, h2, h3, (hs2 g5 h5).trans h4, (hs2 g9 h9).trans h5', h6.move hm, h7.move hm, h8.move hm, h9'.move hm, h10.move hm⟩
def FnJ (w w' : World) (g5 g9 : Nat) (x0 x1 : Value) (q0 q1 : List ByteArray) (v0 v1 : Value) (n0 n1 : List ByteArray) (vw : Value) (ws : List ByteArray) (g : Nat) (u0 u1 : Value) (m0 m1 : List ByteArray) : Prop :=
 FnI w w' g5 g9 x0 x1 q0 q1 v0 v1 n0 n1 vw ws ∧ w'.heap[g]? = some (.cells #[u0, u1] 26 (0, 0)) ∧ RcR w w' u0 m0 ∧ RcR w w' u1 m1
theorem FnJ.below {w w1 w2 : World} {g5 g9 g : Nat} {x0 x1 v0 v1 vw u0 u1 : Value} {q0 q1 n0 n1 ws m0 m1 : List ByteArray} (h : FnJ w w1 g5 g9 x0 x1 q0 q1 v0 v1 n0 n1 vw ws g u0 u1 m0 m1) (hb : Below w1.heap.size w1 w2) : FnJ w w2 g5 g9 x0 x1 q0 q1 v0 v1 n0 n1 vw ws g u0 u1 m0 m1 :=
 ⟨h.1.below hb, (hb.block g (ra_blt h.2.1)).trans h.2.1, h.2.2.1.below hb, h.2.2.2.below hb⟩
theorem FnJ.made {w w1 w2 : World} {g5 g9 g : Nat} {x0 x1 v0 v1 vw u0 u1 : Value} {q0 q1 n0 n1 ws m0 m1 : List ByteArray} (h : FnI w w1 g5 g9 x0 x1 q0 q1 v0 v1 n0 n1 vw ws) (hg : w1.heap[g]? = some (.cells #[.slice none 0 0, .slice none 0 0] 26 (0, 0))) (h5 : g5 ≠ g) (h9 : g9 ≠ g) (hw : w.heap.size ≤ g) (r0 : RcR w w1 u0 m0) (r1 : RcR w w1 u1 m1) (he : w2 = (w1.setCell ⟨g, 0, none⟩ u0).setCell ⟨g, 1, none⟩ u1) : FnJ w w2 g5 g9 x0 x1 q0 q1 v0 v1 n0 n1 vw ws g u0 u1 m0 m1 := by
 have hs2 : ∀ k, k ≠ g → w2.heap[k]? = w1.heap[k]? := fun k hk => by rw [he]; exact (Below.heap_setCell _ _ _ k hk).trans (Below.heap_setCell _ _ _ k hk)
 have hs1 : w2.heap[g]? = some (.cells #[u0, u1] 26 (0, 0)) := by rw [he]; exact blk_put (blk_put hg 0 _ rfl) 1 _ rfl
 have hm : ∀ (k : Nat) (c : Array Value), w1.heap[k]? = some (.cells c 9 (0, 0)) → w2.heap[k]? = w1.heap[k]? := fun k c hc => hs2 k (blk_ne hc hg (by decide))
 exact ⟨h.far hg h5 h9 hw hs2 (fun B w0 hb hB => by rw [he]; exact (hb.setCell hB _).setCell hB _), hs1, r0.move hm, r1.move hm⟩
def laws_FnConsole.l0 : Nat → List ByteArray → Int → List ByteArray → List ByteArray → ByteArray → ByteArray → Option (List ByteArray × List ByteArray × ByteArray × ByteArray)
 | 0, _, _, _, _, _, _ => none
 | k + 1, ws, i, n0, n1, scr, want => if i < (ws.length : Int) then (if 0 ≤ i then ((impl_ConsoleCommand.f k n0 n1 (rdOf ByteArray.empty ws i)).bind fun t => (if t.2.2.2 = true then ((impl_ValidConsole.f k t.1 t.2.1).bind fun v => (if v = true then (if (t.2.2.1.toList = ([110, 111] : List UInt8) ∨ t.2.2.1.toList = ([119, 104, 97, 116] : List UInt8)) → (t.1 = n0 ∧ t.2.1 = n1 ∧ n0.length = n1.length ∧ n0.length ≤ 4294967296) then (if scr.size + (rdOf ByteArray.empty ws i).size + 1 ≤ 4294967296 ∧ want.size + t.2.2.1.size + 1 ≤ 4294967296 then (laws_FnConsole.l0 k ws (wrap64 (i + 1)) t.1 t.2.1 (scr ++ (rdOf ByteArray.empty ws i ++ (⟨#[10]⟩ : ByteArray))) (want ++ (t.2.2.1 ++ (⟨#[10]⟩ : ByteArray)))) else none) else none) else none)) else none)) else none) else (some (n0, n1, scr, want))
def laws_FnConsole.f (k : Nat) (l0 l1 : List Int) : Option (Bool) :=
 (laws_b10Long.f l0 l1).bind fun b => (if b = true then (some true) else ((spec_B10Console.f k l0).bind fun q => ((spec_B10Lines.f k l1 q.1 q.2).bind fun ws => ((laws_FnConsole.l0 k ws 0 q.1 q.2 (⟨#[]⟩ : ByteArray) (⟨#[]⟩ : ByteArray)).bind fun z => ((impl_RunConsole.f k q.1 q.2 z.2.2.1).bind fun r => (if r.2.2.2 = true ∧ r.2.2.1 = z.2.2.2 ∧ r.1 = z.1 ∧ r.2.1 = z.2.1 ∧ z.1.length = z.2.1.length ∧ z.1.length ≤ 4294967296 then (some true) else none))))))
set_option maxHeartbeats 8000000 in
set_option maxRecDepth 100000 in
theorem laws_FnConsole.calls (k : Nat) (A0 : Option Addr) (c0 : Nat) (l0 : List Int) (A1 : Option Addr) (c1 : Nat) (l1 : List Int) (r : Bool) (w : World) (hr0 : Kd.C (Kd.int .u8) w A0 l0.length l0) (hc0 : l0.length ≤ c0) (hr1 : Kd.C (Kd.int .u8) w A1 l1.length l1) (hc1 : l1.length ≤ c1) (hT : LibW w) (h : laws_FnConsole.f k l0 l1 = some r) :
 Calls Tryz.prog 3 #[.slice A0 l0.length c0, .slice A1 l1.length c1] w fun e w' => e = .returned (.bool r) ∧ Below w.heap.size w w' := by
 have hu26 := Tryz.underlying26
 have HR0 := Aside0.mk hr0
 have HC0 := Aside0.mk hc0
 have HR1 := Aside0.mk hr1
 have HC1 := Aside0.mk hc1
 have HT := Aside0.mk hT
 have HB := Aside0.mk (Below.refl w.heap.size w)
 clear hr0 hc0 hr1 hc1 hT
 unfold laws_FnConsole.f at h
 obtain ⟨b, B0, h⟩ := Option.bind_eq_some_iff.mp h
 have B0_ := Aside0.mk B0
 clear B0
 cases b with
 | true =>
  rw [if_pos rfl] at h
  cases h
  go_enter Tryz.func3, Tryz.ntmps3
  go_wp2_with (first | (go_at_call 4; (with_reducible refine (laws_b10Long.calls A0 c0 l0 A1 c1 l1 true _ ?s1 ?s2 ?s3 ?s4 B0_.out).mono ?_); (case s1 => exact HR0.out); (case s2 => exact HC0.out); (case s3 => exact HR1.out); (case s4 => exact HC1.out); rintro e w' ⟨rfl, ⟨nd, rfl⟩⟩))
  go_ret
  exact ⟨rfl, pw_below_drewN (Below.refl _ _) _⟩
 | false =>
  rw [if_neg (fun h_ => Bool.false_ne_true h_)] at h
  obtain ⟨⟨q0, q1⟩, B1, h⟩ := Option.bind_eq_some_iff.mp h
  obtain ⟨ws, B2, h⟩ := Option.bind_eq_some_iff.mp h
  obtain ⟨⟨m0, m1, scr, want⟩, B3, h⟩ := Option.bind_eq_some_iff.mp h
  obtain ⟨⟨r0, r1, r2, r3⟩, B4, h⟩ := Option.bind_eq_some_iff.mp h
  by_cases e1 : r3 = true ∧ r2 = want ∧ r0 = m0 ∧ r1 = m1 ∧ m0.length = m1.length ∧ m0.length ≤ 4294967296
  rotate_left
  ·rw [if_neg e1] at h
   cases h
  rw [if_pos e1] at h
  cases h
  obtain ⟨rfl, rfl, rfl, rfl, e2, e3⟩ := e1
  have E2 := Aside0.mk e2
  have E3 := Aside0.mk e3
  have B1_ := Aside0.mk B1
  have B2_ := Aside0.mk B2
  have B3_ := Aside0.mk B3
  have B4_ := Aside0.mk (show impl_RunConsole.f k q0 q1 scr = some (r0, r1, r2, true) from B4)
  clear B1 B2 B3 B4 e2 e3
  go_enter Tryz.func3, Tryz.ntmps3
  go_wp2_with (first | (go_at_call 4; (with_reducible refine (laws_b10Long.calls A0 c0 l0 A1 c1 l1 false _ ?s1 ?s2 ?s3 ?s4 B0_.out).mono ?_); (case s1 => exact HR0.out); (case s2 => exact HC0.out); (case s3 => exact HR1.out); (case s4 => exact HC1.out); rintro e w' ⟨rfl, ⟨nd, rfl⟩⟩) | (go_at_call 5; (with_reducible refine (spec_B10Console.calls k A0 c0 l0 q0 q1 _ ?t1 ?t2 B1_.out).mono ?_); (case t1 => exact Kd.C_below HR0.out (pw_below_drewN HB.out _)); (case t2 => exact HC0.out); rintro e w3 ⟨y0, y1, rfl, hr0, hr1, hb⟩; obtain ⟨Ax, cx, ex⟩ := Kd.R_slice hr0; subst ex; obtain ⟨Ay, cy, ey⟩ := Kd.R_slice hr1; subst ey; have HX0 := Aside0.mk (show Kd.R Kd.string 9 w3 w.heap.size (fun _ => True) (.slice Ax q0.length cx) q0 from Kd.R_mono hr0 (fun _ _ => trivial)); have HX1 := Aside0.mk (show Kd.R Kd.string 9 w3 w.heap.size (fun _ => True) (.slice Ay q1.length cy) q1 from Kd.R_mono hr1 (fun _ _ => trivial)); have HB2 := Aside0.mk (show Below w.heap.size w w3 from below_step (pw_below_drewN HB.out _) hb); have HB3 := Aside0.mk (Below.refl w3.heap.size w3); clear hr0 hr1 hb) | ((with_reducible refine gate_dst (N := 5) rfl ?_); (try (refine gate_guard (by rfl) ?_; dsimp only)); refine box_event ?hg (N := 5) ?hd (cs := #[.slice none 0 0, .slice none 0 0]) (t := 26) ?hr ?_; (case hd => rfl); (case hg => rfl); (case hr => exact Qj0_); intro g5 hgg5 w4 hbox hb; have n0_ := Aside0.mk (below_step Qd1_ hb); have HG5 := Aside0.mk hgg5; have n1_ := Aside0.mk (hbox); clear HB3; have HB3 := n0_; have BKg5 := n1_; clear n0_ n1_; clear hb hbox hgg5) | ((with_reducible refine gate_store (t := 26) (p := 5) rfl ?_); refine ra_store ?b1 ?b2 26 (.tmp 5) (.tmp 23) ?b3 g5 #[.slice Ax q0.length cx, .slice Ay q1.length cy] ?b4 ?b5 26 #[.slice none 0 0, .slice none 0 0] BKg5.out ?b6 ?b7 ?b8 ?_; (case b1 => rfl); (case b2 => rfl); (case b3 => rfl); (case b4 => rfl); (case b5 => rfl); (case b6 => rfl); (case b7 => rfl); (case b8 => exact Qp0_); intro w5 hs1 hs2 hs3; have HB5 := Aside0.mk (hs3 _ _ HB3.out (Nat.le_of_eq HG5.out.symm)); have HK5 := Aside0.mk hs1; have HY0 := Aside0.mk (RcR.below (w := w) (.inr HX0.out) HB5.out); have HY1 := Aside0.mk (RcR.below (w := w) (.inr HX1.out) HB5.out); have HB6 := Aside0.mk (below_step HB2.out HB5.out); have hcd0 : w5.cell? ⟨g5, 0, none⟩ = some (.slice Ax q0.length cx) := (blk_cell hs1 0).trans rfl; have hcd1 : w5.cell? ⟨g5, 1, none⟩ = some (.slice Ay q1.length cy) := (blk_cell hs1 1).trans rfl; have HZ0 := Aside0.mk (Kd.R_reads' HX0.out).2.1; have HZ1 := Aside0.mk (Kd.R_reads' HX1.out).2.1; clear hs1 hs2 hs3) | (go_at_call 6; (with_reducible refine (spec_B10Lines.calls k A1 c1 l1 Ax cx q0 Ay cy q1 ws _ ?u1 ?u2 ?u3 ?u4 ?u5 ?u6 B2_.out).mono ?_); (case u1 => exact Kd.C_below HR1.out HB6.out); (case u2 => exact HC1.out); (case u3 => exact HY0.out.readC HB6.out); (case u4 => exact HZ0.out); (case u5 => exact HY1.out.readC HB6.out); (case u6 => exact HZ1.out); rintro e w6 ⟨vw, rfl, hr, hb⟩; obtain ⟨Aw, cw, ew, hlw, hCw⟩ := Kd.R_reads hr; subst ew; have HLW := Aside0.mk hlw; have HW := Aside0.mk (show RcR w w6 (.slice Aw ws.length cw) ws from .inr (Kd.R_lower hr HB6.out.size)); have HK6 := Aside0.mk ((hb.block g5 (ra_blt HK5.out)).trans HK5.out); have HY2 := Aside0.mk (HY0.out.below hb); have HY3 := Aside0.mk (HY1.out.below hb); have HB7 := Aside0.mk (below_step HB6.out hb); have HB8 := Aside0.mk (Below.refl w6.heap.size w6); have hce0 : w6.cell? ⟨g5, 0, none⟩ = some (.slice Ax q0.length cx) := (blk_cell HK6.out 0).trans rfl; have hce1 : w6.cell? ⟨g5, 1, none⟩ = some (.slice Ay q1.length cy) := (blk_cell HK6.out 1).trans rfl; clear hr hb hlw hCw) | ((with_reducible refine gate_dst (N := 9) rfl ?_); (try (refine gate_guard (by rfl) ?_; dsimp only)); refine box_event ?hg (N := 9) ?hd (cs := #[.slice none 0 0, .slice none 0 0]) (t := 26) ?hr ?_; (case hd => rfl); (case hg => rfl); (case hr => exact Qj0_); intro g9 hgg9 w7 hbox hb; have n0_ := Aside0.mk (below_step (by repeat (first | (with_reducible first | exact HB8.out | apply below_alloc | apply pw_below_drewN | apply below_drew1) | exact HB8.out)) hb); have HG9 := Aside0.mk hgg9; have n1_ := Aside0.mk (hbox); clear HB8; have HB8 := n0_; have BKg9 := n1_; clear n0_ n1_; clear hb hbox hgg9) | ((with_reducible refine gate_store (t := 26) (p := 9) rfl ?_); refine ra_store ?d1 ?d2 26 (.tmp 9) (.tmp 27) ?d3 g9 #[.slice Ax q0.length cx, .slice Ay q1.length cy] ?d4 ?d5 26 #[.slice none 0 0, .slice none 0 0] BKg9.out ?d6 ?d7 ?d8 ?_; (case d1 => rfl); (case d2 => rfl); (case d3 => rfl); (case d4 => rfl); (case d5 => rfl); (case d6 => rfl); (case d7 => rfl); (case d8 => exact Qp0_); intro w8 hs1 hs2 hs3; have hb_ := hs3 _ _ HB8.out (Nat.le_of_eq HG9.out.symm); have HI9 := Aside0.mk (show FnI w w8 g5 g9 (.slice Ax q0.length cx) (.slice Ay q1.length cy) q0 q1 (.slice Ax q0.length cx) (.slice Ay q1.length cy) q0 q1 (.slice Aw ws.length cw) ws from ⟨below_step HB7.out hb_, Nat.le_trans HB7.out.size (Nat.le_of_eq HG9.out.symm), (fun e_ => by have h1_ := ra_blt HK6.out; have h2_ := HG9.out; omega), (hb_.block g5 (ra_blt HK6.out)).trans HK6.out, hs1, HY2.out.below hb_, HY3.out.below hb_, HY2.out.below hb_, HY3.out.below hb_, HW.out.below hb_⟩); clear hb_; clear hs1 hs2 hs3))
  go_loopg [7, 8, 10] k (fun kq v7 v8 v10 w' => ∃ (i : Int) (n0 n1 : List ByteArray) (v0 v1 : Value) (sc wa : ByteArray), v7 = .string sc ∧ v8 = .string wa ∧ v10 = .int .i64 i ∧ Aside0 (laws_FnConsole.l0 kq ws i n0 n1 sc wa = some (r0, r1, scr, r2)) ∧ Aside0 (kq ≤ k) ∧ Aside0 (FnI w w' g5 g9 (.slice Ax q0.length cx) (.slice Ay q1.length cy) q0 q1 v0 v1 n0 n1 (.slice Aw ws.length cw) ws))
  case atStart => exact ⟨0, _, _, _, _, _, _, rfl, rfl, rfl, B3_, ⟨Nat.le_refl _⟩, ⟨HI9.out⟩⟩
  case round =>
   obtain ⟨i, n0, n1, v0, v1, sc, wa, rfl, rfl, rfl, HA, HK1, HI⟩ := hrel
   cases gk with
   | zero => exact absurd HA.out (by simp [laws_FnConsole.l0])
   | succ k1 =>
    have H := HA.out
    clear HA
    simp only [laws_FnConsole.l0] at H
    obtain ⟨A2, c2, ev0, hC2, hl2⟩ := HI.out.2.2.2.2.2.2.2.1.reads HI.out.1
    obtain ⟨A3, c3, ev1, hC3, hl3⟩ := HI.out.2.2.2.2.2.2.2.2.1.reads HI.out.1
    subst ev0
    subst ev1
    have HR2 := Aside0.mk hC2
    have HC2 := Aside0.mk hl2
    have HR3 := Aside0.mk hC3
    have HC3 := Aside0.mk hl3
    clear hC2 hl2 hC3 hl3
    by_cases d1 : i < (ws.length : Int)
    rotate_left
    ·rw [if_neg d1] at H
     have d1b0 : decide (i < (ws.length : Int)) = false := decide_eq_false d1
     clear d1
     simp only [Option.some.injEq, Prod.mk.injEq] at H
     obtain ⟨rfl, rfl, rfl, rfl⟩ := H
     have hcx0 : wr.cell? ⟨g5, 0, none⟩ = some (.slice Ax q0.length cx) := (blk_cell HI.out.2.2.2.1 0).trans rfl
     have hcx1 : wr.cell? ⟨g5, 1, none⟩ = some (.slice Ay q1.length cy) := (blk_cell HI.out.2.2.2.1 1).trans rfl
     go_wp2_with (first | (go_at_call 9; (with_reducible refine (impl_RunConsole.calls k Ax cx q0 Ay cy q1 sc n0 n1 wa true _ ?q1 ?q2 ?q3 ?q4 ?q5 B4_.out).mono ?_); (case q1 => exact HI.out.2.2.2.2.2.1.readC HI.out.1); (case q2 => exact HZ0.out); (case q3 => exact HI.out.2.2.2.2.2.2.1.readC HI.out.1); (case q4 => exact HZ1.out); (case q5 => exact tabBelow HT.out HI.out.1); rintro e w3 ⟨z0_, z1_, rfl, ha, hb_, hb⟩; have HI3 := Aside0.mk (HI.out.below hb); obtain ⟨Aa, ca, ea⟩ := Kd.R_slice ha; subst ea; obtain ⟨Ab, cb, eb⟩ := Kd.R_slice hb_; subst eb; have HRA := Aside0.mk (show RcR w w3 (.slice Aa n0.length ca) n0 from .inr (Kd.R_lower (Kd.R_mono ha (fun _ _ => trivial)) HI.out.1.size)); have HRB := Aside0.mk (show RcR w w3 (.slice Ab n1.length cb) n1 from .inr (Kd.R_lower (Kd.R_mono hb_ (fun _ _ => trivial)) HI.out.1.size)); have HB3 := Aside0.mk (Below.refl w3.heap.size w3); clear ha hb_ hb) | ((with_reducible refine gate_dst (N := 15) rfl ?_); (try (refine gate_guard (by rfl) ?_; dsimp only)); refine box_event ?hg (N := 15) ?hd (cs := #[.slice none 0 0, .slice none 0 0]) (t := 26) ?hr ?_; (case hd => rfl); (case hg => rfl); (case hr => exact Qj0_); intro g15 hgg15 w4 hbox hb; have n0_ := Aside0.mk (below_step Qd1_ hb); have HG15 := Aside0.mk hgg15; have n1_ := Aside0.mk (hbox); clear HB3; have HB3 := n0_; have BKg15 := n1_; clear n0_ n1_; clear hb hbox hgg15) | ((with_reducible refine gate_store (t := 26) (p := 15) rfl ?_); refine ra_store ?n1 ?n2 26 (.tmp 15) (.tmp 111) ?n3 g15 #[.slice Aa n0.length ca, .slice Ab n1.length cb] ?n4 ?n5 26 #[.slice none 0 0, .slice none 0 0] BKg15.out ?n6 ?n7 ?n8 ?_; (case n1 => rfl); (case n2 => rfl); (case n3 => rfl); (case n4 => rfl); (case n5 => rfl); (case n6 => rfl); (case n7 => rfl); (case n8 => exact Qp0_); intro w5 hs1 hs2 hs3; have hb_ := hs3 _ _ HB3.out (Nat.le_of_eq HG15.out.symm); have HJ := Aside0.mk (show FnJ w w5 g5 g9 (.slice Ax q0.length cx) (.slice Ay q1.length cy) q0 q1 (.slice A2 n0.length c2) (.slice A3 n1.length c3) n0 n1 (.slice Aw ws.length cw) ws g15 (.slice Aa n0.length ca) (.slice Ab n1.length cb) n0 n1 from ⟨HI3.out.below hb_, hs1, HRA.out.below hb_, HRB.out.below hb_⟩); clear hb_; have hcd0 : w5.cell? ⟨g15, 0, none⟩ = some (.slice Aa n0.length ca) := (blk_cell HJ.out.2.1 0).trans rfl; have hcf0 : w5.cell? ⟨g9, 0, none⟩ = some (.slice A2 n0.length c2) := (blk_cell HJ.out.1.2.2.2.2.1 0).trans rfl; clear hs1 hs2 hs3))
     go_loopg [18] n0.length (fun kq v18 w' => ∃ j : Nat, v18 = .int .i64 (j : Int) ∧ Aside0 (kq + j = n0.length) ∧ Aside0 (FnJ w w' g5 g9 (.slice Ax q0.length cx) (.slice Ay q1.length cy) q0 q1 (.slice A2 n0.length c2) (.slice A3 n1.length c3) n0 n1 (.slice Aw ws.length cw) ws g15 (.slice Aa n0.length ca) (.slice Ab n1.length cb) n0 n1))
     case atStart => exact ⟨0, rfl, ⟨Nat.add_zero _⟩, ⟨HJ.out⟩⟩
     case round =>
      obtain ⟨j, rfl, HM, HJ3⟩ := hrel
      have hcg0 : wr.cell? ⟨g15, 0, none⟩ = some (.slice Aa n0.length ca) := (blk_cell HJ3.out.2.1 0).trans rfl
      have hcg1 : wr.cell? ⟨g15, 1, none⟩ = some (.slice Ab n1.length cb) := (blk_cell HJ3.out.2.1 1).trans rfl
      have hch0 : wr.cell? ⟨g9, 0, none⟩ = some (.slice A2 n0.length c2) := (blk_cell HJ3.out.1.2.2.2.2.1 0).trans rfl
      have hch1 : wr.cell? ⟨g9, 1, none⟩ = some (.slice A3 n1.length c3) := (blk_cell HJ3.out.1.2.2.2.2.1 1).trans rfl
      cases gk with
      | zero =>
       have hj0 : decide ((j : Int) < (n0.length : Int)) = false := decide_eq_false (by have := HM.out; omega)
       have hj1 : decide (j < n0.length) = false := decide_eq_false (by have := HM.out; omega)
       go_wp2
       go_ret
       exact ⟨rfl, HJ3.out.1.1⟩
      | succ k2 =>
       have hl0 : j < n0.length := by have := HM.out; omega
       have hl1 : j < n1.length := by have := E2.out; omega
       have hj0 : decide ((j : Int) < (n0.length : Int)) = true := decide_eq_true (by omega)
       have hj1 : decide (j < n0.length) = true := decide_eq_true hl0
       have hw1 : IntKind.i64.wrap ((j : Int) + 1) = ((j + 1 : Nat) : Int) := by rw [show ((j : Int) + 1) = ((j + 1 : Nat) : Int) by omega]; exact IntWalk.i64_in _ (by have := E3.out; omega)
       obtain ⟨e0, ee0, hs0⟩ := Kd.at_string (HJ3.out.2.2.1.readC HJ3.out.1.1) (j : Int) (by omega) (by omega)
       obtain ⟨e1, ee1, hs1⟩ := Kd.at_string (HJ3.out.2.2.2.readC HJ3.out.1.1) (j : Int) (by omega) (by omega)
       obtain ⟨e2, ee2, hs2⟩ := Kd.at_string (HJ3.out.1.2.2.2.2.2.2.2.1.readC HJ3.out.1.1) (j : Int) (by omega) (by omega)
       obtain ⟨e3, ee3, hs3⟩ := Kd.at_string (HJ3.out.1.2.2.2.2.2.2.2.2.1.readC HJ3.out.1.1) (j : Int) (by omega) (by omega)
       obtain ⟨sa, hsa⟩ : ∃ y : ByteArray, rdOf ByteArray.empty n0 (j : Int) = y := ⟨_, rfl⟩
       obtain ⟨sb, hsb⟩ : ∃ y : ByteArray, rdOf ByteArray.empty n1 (j : Int) = y := ⟨_, rfl⟩
       rw [hsa] at hs0 hs2
       rw [hsb] at hs1 hs3
       have hz0 : wr.cell? (e0.add j) = some (.string sa) := hs0
       have hz1 : wr.cell? (e1.add j) = some (.string sb) := hs1
       have hz2 : wr.cell? (e2.add j) = some (.string sa) := hs2
       have hz3 : wr.cell? (e3.add j) = some (.string sb) := hs3
       have hl0b := eq_true hl0
       have hl1b := eq_true hl1
       have hl0c : ((j : Int) < (n0.length : Int)) = True := eq_true (by omega)
       have hl1c : ((j : Int) < (n1.length : Int)) = True := eq_true (by omega)
       have HW1 := Aside0.mk hw1
       clear hsa hsb hl0 hl1
       subst ee0 ee1 ee2 ee3
       go_wp2
       go_region
       all_goals go_wp2
       all_goals go_roundg k2
       all_goals (first | (exact ⟨j + 1, (by first | rfl | (simp; done) | (simp [*]; done) | (rw [HW1.out])), ⟨by have := HM.out; omega⟩, ⟨by first | exact HJ3.out | exact HJ3.out.below Qn0_⟩⟩) | omega)
    rw [if_pos d1] at H
    by_cases d2 : 0 ≤ i
    rotate_left
    ·rw [if_neg d2] at H
     cases H
    rw [if_pos d2] at H
    obtain ⟨li, hli⟩ : ∃ y : ByteArray, rdOf ByteArray.empty ws i = y := ⟨_, rfl⟩
    rw [hli] at H
    obtain ⟨⟨t0, t1, tx, t3⟩, C1, H⟩ := Option.bind_eq_some_iff.mp H
    cases t3 with
    | false =>
     rw [if_neg (fun h_ => Bool.false_ne_true h_)] at H
     cases H
    | true =>
    rw [if_pos rfl] at H
    obtain ⟨bv, C2, H⟩ := Option.bind_eq_some_iff.mp H
    cases bv with
    | false =>
     rw [if_neg (fun h_ => Bool.false_ne_true h_)] at H
     cases H
    | true =>
    rw [if_pos rfl] at H
    by_cases d4 : (tx.toList = ([110, 111] : List UInt8) ∨ tx.toList = ([119, 104, 97, 116] : List UInt8)) → (t0 = n0 ∧ t1 = n1 ∧ n0.length = n1.length ∧ n0.length ≤ 4294967296)
    rotate_left
    ·rw [if_neg d4] at H
     cases H
    rw [if_pos d4] at H
    by_cases d5 : sc.size + li.size + 1 ≤ 4294967296 ∧ wa.size + tx.size + 1 ≤ 4294967296
    rotate_left
    ·rw [if_neg d5] at H
     cases H
    rw [if_pos d5] at H
    have H' := Aside0.mk H
    have C1_ := Aside0.mk C1
    have C2_ := Aside0.mk C2
    have D4 := Aside0.mk d4
    have D5 := Aside0.mk d5
    have D1 := Aside0.mk (And.intro d2 d1)
    have HLI := Aside0.mk hli
    have d1b0 : decide (i < (ws.length : Int)) = true := decide_eq_true d1
    have p1 := eq_true d2
    have q1_ := eq_true d1
    clear H C1 C2 d4 d5 hli d1 d2
    have hcc0 : wr.cell? ⟨g9, 0, none⟩ = some (.slice A2 n0.length c2) := (blk_cell HI.out.2.2.2.2.1 0).trans rfl
    have hcc1 : wr.cell? ⟨g9, 1, none⟩ = some (.slice A3 n1.length c3) := (blk_cell HI.out.2.2.2.2.1 1).trans rfl
    obtain ⟨ad2, ed2, hy2⟩ := Kd.at_string (HI.out.2.2.2.2.2.2.2.2.2.readC HI.out.1) i D1.out.1 D1.out.2
    rw [HLI.out] at hy2
    cases ed2
    have ha_ : Below wr.heap.size wr (wr.alloc (.cells #[.slice none 0 0, .slice none 0 0] 26)) := below_alloc (Below.refl _ _) _
    have hal0 := pw_cell_below ha_ hy2
    have hal1 := pw_cell_below ha_ hcc0
    have hal2 := pw_cell_below ha_ hcc1
    clear ha_
    go_wp2
    go_cut [11, 12, 13] (fun v11 v12 v13 wx => ∃ (g : Nat) (u0 u1 : Value), v11 = .pointer (some ⟨g, 0, none⟩) ∧ v12 = .string tx ∧ v13 = .bool true ∧ Aside0 (FnJ w wx g5 g9 (.slice Ax q0.length cx) (.slice Ay q1.length cy) q0 q1 (.slice A2 n0.length c2) (.slice A3 n1.length c3) n0 n1 (.slice (some ad2) ws.length cw) ws g u0 u1 t0 t1))
    case first =>
     go_region_with (go_at_call 7; (with_reducible refine (impl_ConsoleCommand.calls k1 A2 c2 n0 A3 c3 n1 li t0 t1 tx true _ ?q1 ?q2 ?q3 ?q4 ?q5 C1_.out).mono ?_); (case q1 => exact Kd.C_below HR2.out Qn0_); (case q2 => exact HC2.out); (case q3 => exact Kd.C_below HR3.out Qn0_); (case q4 => exact HC3.out); (case q5 => exact tabBelow HT.out (below_step HI.out.1 Qn0_)); rintro e w3 ⟨z0_, z1_, rfl, ha, hb_, hb⟩; have HI3 := Aside0.mk ((HI.out.below Qn0_).below hb); obtain ⟨Aa, ca, ea⟩ := Kd.R_slice ha; subst ea; obtain ⟨Ab, cb, eb⟩ := Kd.R_slice hb_; subst eb; have HRA := Aside0.mk (show RcR w w3 (.slice Aa t0.length ca) t0 from .inr (Kd.R_lower (Kd.R_mono ha (fun _ _ => trivial)) (HI.out.below Qn0_).1.size)); have HRB := Aside0.mk (show RcR w w3 (.slice Ab t1.length cb) t1 from .inr (Kd.R_lower (Kd.R_mono hb_ (fun _ _ => trivial)) (HI.out.below Qn0_).1.size)); have HBQ := Aside0.mk hb; have HBS := Aside0.mk (show wr.heap.size ≤ w3.heap.size from Nat.le_trans (show Below wr.heap.size wr _ from Qn0_).size hb.size); (first | (have hbk_ : w3.heap[wr.heap.size]? = some (.cells #[.slice none 0 0, .slice none 0 0] 26 (0, 0)) := (hb.block wr.heap.size (ra_blt (heap_alloc_new _ _))).trans (heap_alloc_new _ _); have HBG := Aside0.mk hbk_; have hcs0 := (blk_cell hbk_ 0).trans rfl; have hcs1 := (blk_cell hbk_ 1).trans rfl; have hfs0 := blk_frozen hbk_ 0; have hfs1 := blk_frozen hbk_ 1; clear hbk_) | skip); clear ha hb_ hb)
     all_goals (go_wp2; go_meet; exact ⟨_, _, _, rfl, rfl, rfl, ⟨by first | exact (FnJ.made HI3.out HBG.out (Nat.ne_of_lt (ra_blt HI.out.2.2.2.1)) (Nat.ne_of_lt (ra_blt HI.out.2.2.2.2.1)) HI.out.1.size HRA.out HRB.out rfl).below Qn0_ | exact (show FnJ w (w3.alloc _) g5 g9 _ _ _ _ _ _ _ _ _ _ _ _ _ _ _ from ⟨HI3.out.below (below_alloc (Below.refl w3.heap.size w3) _), heap_alloc_new _ _, HRA.out.below (below_alloc (Below.refl w3.heap.size w3) _), HRB.out.below (below_alloc (Below.refl w3.heap.size w3) _)⟩)⟩⟩)
    case rest =>
     obtain ⟨g, u0, u1, rfl, rfl, rfl, HJ⟩ := hcut
     obtain ⟨Aa, ca, ea, hCa, hla⟩ := HJ.out.2.2.1.reads HJ.out.1.1
     subst ea
     obtain ⟨Ab, cb, eb, hCb, hlb⟩ := HJ.out.2.2.2.reads HJ.out.1.1
     subst eb
     have HCA := Aside0.mk hCa
     have HCB := Aside0.mk hCb
     have HLA := Aside0.mk hla
     have HLB := Aside0.mk hlb
     clear hCa hCb hla hlb hcc0 hcc1 hal0 hal1 hal2
     have hcd0 : wc.cell? ⟨g, 0, none⟩ = some (.slice Aa t0.length ca) := (blk_cell HJ.out.2.1 0).trans rfl
     have hcd1 : wc.cell? ⟨g, 1, none⟩ = some (.slice Ab t1.length cb) := (blk_cell HJ.out.2.1 1).trans rfl
     have f1 : (9223372036854775807 < li.size + 1) = False := eq_false (by have := D5.out; omega)
     have f2 : (9223372036854775807 < sc.size + (li.size + 1)) = False := eq_false (by have := D5.out; omega)
     have f3 : (9223372036854775807 < tx.size + 1) = False := eq_false (by have := D5.out; omega)
     have f4 : (9223372036854775807 < wa.size + (tx.size + 1)) = False := eq_false (by have := D5.out; omega)
     by_cases a1 : tx.toList = ([110, 111] : List UInt8) ∨ tx.toList = ([119, 104, 97, 116] : List UInt8)
     ·obtain ⟨rfl, rfl, el, em⟩ := D4.out a1
      have EL := Aside0.mk el
      have EM := Aside0.mk em
      have hx : (tx.toList == ([110, 111] : List UInt8)) = true ∨ ((tx.toList == ([110, 111] : List UInt8)) = false ∧ (tx.toList == ([119, 104, 97, 116] : List UInt8)) = true) := by
       by_cases a2 : tx.toList = ([110, 111] : List UInt8)
       ·exact .inl (beq_iff_eq.mpr a2)
       ·exact .inr ⟨beq_eq_false_iff_ne.mpr a2, beq_iff_eq.mpr (a1.resolve_left a2)⟩
      clear a1 el em
      rcases hx with hx1 | ⟨hx1, hx2⟩
      all_goals
       go_wp2_with (first | (go_at_call 8; (with_reducible refine (impl_ValidConsole.calls k1 Aa ca t0 Ab cb t1 true _ ?s1 ?s2 ?s3 ?s4 C2_.out).mono ?_); (case s1 => exact HCA.out); (case s2 => exact HLA.out); (case s3 => exact HCB.out); (case s4 => exact HLB.out); rintro e w6 ⟨rfl, hb⟩; have HJ2 := Aside0.mk (HJ.out.below hb); clear hb; have hce0 : w6.cell? ⟨g, 0, none⟩ = some (.slice Aa t0.length ca) := (blk_cell HJ2.out.2.1 0).trans rfl; have hce1 : w6.cell? ⟨g, 1, none⟩ = some (.slice Ab t1.length cb) := (blk_cell HJ2.out.2.1 1).trans rfl; have hcf0 := (blk_cell HJ2.out.1.2.2.2.2.1 0).trans rfl; have hy3 := pw_cell_below (Below.refl _ _) hy2; have hz3_ := Kd.at_string (HJ2.out.1.2.2.2.2.2.2.2.2.2.readC HJ2.out.1.1) i D1.out.1 D1.out.2; rw [HLI.out] at hz3_; obtain ⟨ad3, ed3, hy4⟩ := hz3_; rw [← Option.some.inj ed3] at hy4; clear ed3))
       go_loopg [14] t0.length (fun kq v14 w' => ∃ j : Nat, v14 = .int .i64 (j : Int) ∧ Aside0 (kq + j = t0.length) ∧ Aside0 (FnJ w w' g5 g9 (.slice Ax q0.length cx) (.slice Ay q1.length cy) q0 q1 (.slice A2 t0.length c2) (.slice A3 t1.length c3) t0 t1 (.slice (some ad2) ws.length cw) ws g (.slice Aa t0.length ca) (.slice Ab t1.length cb) t0 t1))
       case atStart => exact ⟨0, rfl, ⟨Nat.add_zero _⟩, ⟨HJ2.out⟩⟩
       case round =>
        obtain ⟨j, rfl, HM, HJ3⟩ := hrel
        have hcg0 : wr.cell? ⟨g, 0, none⟩ = some (.slice Aa t0.length ca) := (blk_cell HJ3.out.2.1 0).trans rfl
        have hcg1 : wr.cell? ⟨g, 1, none⟩ = some (.slice Ab t1.length cb) := (blk_cell HJ3.out.2.1 1).trans rfl
        have hch0 : wr.cell? ⟨g9, 0, none⟩ = some (.slice A2 t0.length c2) := (blk_cell HJ3.out.1.2.2.2.2.1 0).trans rfl
        have hch1 : wr.cell? ⟨g9, 1, none⟩ = some (.slice A3 t1.length c3) := (blk_cell HJ3.out.1.2.2.2.2.1 1).trans rfl
        cases gk with
        | zero =>
         have hj0 : decide ((j : Int) < (t0.length : Int)) = false := decide_eq_false (by have := HM.out; omega)
         have hj1 : decide (j < t0.length) = false := decide_eq_false (by have := HM.out; omega)
         obtain ⟨ad3, ed3, hy4⟩ := Kd.at_string (HJ3.out.1.2.2.2.2.2.2.2.2.2.readC HJ3.out.1.1) i D1.out.1 D1.out.2
         rw [HLI.out, ← Option.some.inj ed3] at hy4
         clear ed3
         go_wp2_with (first | ((with_reducible refine gate_store (t := 26) (p := 9) rfl ?_); refine ra_store ?m1 ?m2 26 (.tmp 9) (.tmp 106) ?m3 g9 #[.slice Aa t0.length ca, .slice Ab t1.length cb] ?m4 ?m5 26 #[.slice A2 t0.length c2, .slice A3 t1.length c3] HJ3.out.1.2.2.2.2.1 ?m6 ?m7 ?m8 ?_; (case m1 => rfl); (case m2 => rfl); (case m3 => rfl); (case m4 => rfl); (case m5 => rfl); (case m6 => rfl); (case m7 => rfl); (case m8 => exact Qp0_); intro w8 hs1 hs2 hs3; have HI6 := Aside0.mk (HJ3.out.1.set HJ3.out.2.2.1 HJ3.out.2.2.2 hs1 hs2 hs3); clear hs1 hs2 hs3))
         go_roundg k1
         case measure => have := HK1.out; omega
         case rel => exact ⟨wrap64 (i + 1), t0, t1, _, _, sc ++ (li ++ (⟨#[10]⟩ : ByteArray)), wa ++ (tx ++ (⟨#[10]⟩ : ByteArray)), (by first | rfl | (simp; done) | (simp [*]; done) | (simp [show (⟨#[10]⟩ : ByteArray).size = 1 from rfl]; done)), Qf0_, Qf0_, H', ⟨Qs0_⟩, ⟨HI6.out⟩⟩
        | succ k2 =>
         have hl0 : j < t0.length := by have := HM.out; omega
         have hl1 : j < t1.length := by have := EL.out; omega
         have hj0 : decide ((j : Int) < (t0.length : Int)) = true := decide_eq_true (by omega)
         have hj1 : decide (j < t0.length) = true := decide_eq_true hl0
         have hw1 : IntKind.i64.wrap ((j : Int) + 1) = ((j + 1 : Nat) : Int) := by rw [show ((j : Int) + 1) = ((j + 1 : Nat) : Int) by omega]; exact IntWalk.i64_in _ (by have := EM.out; omega)
         obtain ⟨e0, ee0, hs0⟩ := Kd.at_string (HJ3.out.2.2.1.readC HJ3.out.1.1) (j : Int) (by omega) (by omega)
         obtain ⟨e1, ee1, hs1⟩ := Kd.at_string (HJ3.out.2.2.2.readC HJ3.out.1.1) (j : Int) (by omega) (by omega)
         obtain ⟨e2, ee2, hs2⟩ := Kd.at_string (HJ3.out.1.2.2.2.2.2.2.2.1.readC HJ3.out.1.1) (j : Int) (by omega) (by omega)
         obtain ⟨e3, ee3, hs3⟩ := Kd.at_string (HJ3.out.1.2.2.2.2.2.2.2.2.1.readC HJ3.out.1.1) (j : Int) (by omega) (by omega)
         obtain ⟨sa, hsa⟩ : ∃ y : ByteArray, rdOf ByteArray.empty t0 (j : Int) = y := ⟨_, rfl⟩
         obtain ⟨sb, hsb⟩ : ∃ y : ByteArray, rdOf ByteArray.empty t1 (j : Int) = y := ⟨_, rfl⟩
         rw [hsa] at hs0 hs2
         rw [hsb] at hs1 hs3
         have hz0 : wr.cell? (e0.add j) = some (.string sa) := hs0
         have hz1 : wr.cell? (e1.add j) = some (.string sb) := hs1
         have hz2 : wr.cell? (e2.add j) = some (.string sa) := hs2
         have hz3 : wr.cell? (e3.add j) = some (.string sb) := hs3
         have hl0b := eq_true hl0
         have hl1b := eq_true hl1
         have hl0c : ((j : Int) < (t0.length : Int)) = True := eq_true (by omega)
         have hl1c : ((j : Int) < (t1.length : Int)) = True := eq_true (by omega)
         have HW1 := Aside0.mk hw1
         clear hsa hsb hl0 hl1
         subst ee0 ee1 ee2 ee3
         go_wp2
         go_region
         all_goals go_wp2
         all_goals go_roundg k2
         all_goals (first | (exact ⟨j + 1, (by first | rfl | (simp; done) | (simp [*]; done) | (rw [HW1.out])), ⟨by have := HM.out; omega⟩, ⟨by first | exact HJ3.out | exact HJ3.out.below Qn0_⟩⟩) | omega)
     ·have hx1 : (tx.toList == ([110, 111] : List UInt8)) = false := beq_eq_false_iff_ne.mpr (fun e => a1 (.inl e))
      have hx2 : (tx.toList == ([119, 104, 97, 116] : List UInt8)) = false := beq_eq_false_iff_ne.mpr (fun e => a1 (.inr e))
      clear a1
      go_wp2_with (first | (go_at_call 8; (with_reducible refine (impl_ValidConsole.calls k1 Aa ca t0 Ab cb t1 true _ ?s1 ?s2 ?s3 ?s4 C2_.out).mono ?_); (case s1 => exact HCA.out); (case s2 => exact HLA.out); (case s3 => exact HCB.out); (case s4 => exact HLB.out); rintro e w6 ⟨rfl, hb⟩; have HJ2 := Aside0.mk (HJ.out.below hb); clear hb; have hce0 : w6.cell? ⟨g, 0, none⟩ = some (.slice Aa t0.length ca) := (blk_cell HJ2.out.2.1 0).trans rfl; have hce1 : w6.cell? ⟨g, 1, none⟩ = some (.slice Ab t1.length cb) := (blk_cell HJ2.out.2.1 1).trans rfl; have hcf0 := (blk_cell HJ2.out.1.2.2.2.2.1 0).trans rfl; have hy3 := pw_cell_below (Below.refl _ _) hy2; have hz3_ := Kd.at_string (HJ2.out.1.2.2.2.2.2.2.2.2.2.readC HJ2.out.1.1) i D1.out.1 D1.out.2; rw [HLI.out] at hz3_; obtain ⟨ad3, ed3, hy4⟩ := hz3_; rw [← Option.some.inj ed3] at hy4; clear ed3) | ((with_reducible refine gate_store (t := 26) (p := 9) rfl ?_); refine ra_store ?m1 ?m2 26 (.tmp 9) (.tmp 106) ?m3 g9 #[.slice Aa t0.length ca, .slice Ab t1.length cb] ?m4 ?m5 26 #[.slice A2 n0.length c2, .slice A3 n1.length c3] HJ2.out.1.2.2.2.2.1 ?m6 ?m7 ?m8 ?_; (case m1 => rfl); (case m2 => rfl); (case m3 => rfl); (case m4 => rfl); (case m5 => rfl); (case m6 => rfl); (case m7 => rfl); (case m8 => exact Qp0_); intro w8 hs1 hs2 hs3; have HI6 := Aside0.mk (HJ2.out.1.set HJ2.out.2.2.1 HJ2.out.2.2.2 hs1 hs2 hs3); clear hs1 hs2 hs3))
      go_roundg k1
      case measure => have := HK1.out; omega
      case rel => exact ⟨wrap64 (i + 1), t0, t1, _, _, sc ++ (li ++ (⟨#[10]⟩ : ByteArray)), wa ++ (tx ++ (⟨#[10]⟩ : ByteArray)), (by first | rfl | (simp; done) | (simp [*]; done) | (simp [show (⟨#[10]⟩ : ByteArray).size = 1 from rfl]; done)), Qf0_, Qf0_, H', ⟨Qs0_⟩, ⟨HI6.out⟩⟩
end Go.Proofs.YtdaeioklcilipaaGreatDoor.QFnConsole
