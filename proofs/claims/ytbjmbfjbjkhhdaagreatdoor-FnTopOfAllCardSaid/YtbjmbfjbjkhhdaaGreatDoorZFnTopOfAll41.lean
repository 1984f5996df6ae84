/- Made small by wip/pack.py: lemmas and contracts that the law's row leans on. -/
import Derived.Test.YtbjmbfjbjkhhdaaGreatDoorZFnTopOfAll27
import Derived.Test.YtbjmbfjbjkhhdaaGreatDoorZFnTopOfAll28
import Derived.Test.YtbjmbfjbjkhhdaaGreatDoorZFnTopOfAll29
import Derived.Test.YtbjmbfjbjkhhdaaGreatDoorZFnTopOfAll37
import Derived.Test.YtbjmbfjbjkhhdaaGreatDoorZFnTopOfAll38
import Derived.Test.YtbjmbfjbjkhhdaaGreatDoorZFnTopOfAll39
import Derived.Test.YtbjmbfjbjkhhdaaGreatDoorZFnTopOfAll40
namespace Go.Proofs.YtbjmbfjbjkhhdaaGreatDoor.QFnTopOfAll
open Go.RowKit Go.Proofs.YtbjmbfjbjkhhdaaGreatDoorW.PrintWords Go.Proofs.YtbjmbfjbjkhhdaaGreatDoorW.PrintLast Go.Proofs.YtbjmbfjbjkhhdaaGreatDoorW.PrintMore
attribute [local go_sem] max2_int min2_int max_two min_two max_three min_three max_four min_four
set_option linter.unusedVariables false
set_option linter.unusedSimpArgs false
def impl_Console_put.f (k : Nat) (ns ls : List ByteArray) (name bits : ByteArray) : Option (Bool × List ByteArray × List ByteArray) := (slices_BinarySearch_string_string.f k ns name).bind fun bt => (if bt.2 = true then (if 0 ≤ bt.1 then (if bt.1 < (ls.length : Int) then ((impl_ValidConsole.f k ns (ls.set bt.1.toNat bits)).bind fun t => (some (t, ns, ls.set bt.1.toNat bits))) else (none)) else (none)) else (if 0 ≤ bt.1 ∧ bt.1 ≤ (ns.length : Int) ∧ bt.1 ≤ (ls.length : Int) ∧ ns.length ≤ 1000 ∧ ls.length ≤ 1000 then ((impl_ValidConsole.f k (ns.take bt.1.toNat ++ name :: ns.drop bt.1.toNat) (ls.take bt.1.toNat ++ bits :: ls.drop bt.1.toNat)).bind fun t => (some (t, ns.take bt.1.toNat ++ name :: ns.drop bt.1.toNat, ls.take bt.1.toNat ++ bits :: ls.drop bt.1.toNat))) else (none)))
theorem pt_below (w : World) (n : Nat) (o : Obj) : Below w.heap.size w ((w.drewN n).alloc o) := below_alloc (pw_below_drewN (Below.refl _ _) n) o
theorem pt_below0 (w : World) (o : Obj) : Below w.heap.size w (w.alloc o) := below_alloc (Below.refl _ _) o
theorem pt_alloc0 (w : World) (o : Obj) (k : Nat) (hk : k < w.heap.size) : (w.alloc o).heap[k]? = w.heap[k]? := (pt_below0 w o).block k hk
theorem pt_blk0 {w0 w wa w2 : World} {b : Nat} {v0 v1 : Value} {ns ls : List ByteArray} (hC : conAt w w0.heap.size b v0 v1 ns ls) (hB : Below w.heap.size w wa) (hg : wa.grownBy w2 v0.ownBlock) : w2.heap[b]? = some (.cells #[v0, v1] 39 (0, 0)) :=
 ((hg.block b (Nat.lt_of_lt_of_le (con_blt hC) hB.size) (fun e => str_ne hC.2.2.1 hC.2.1 (by decide) e.symm)).trans (hB.block b (con_blt hC))).trans hC.2.1
theorem pt_blk1 {w0 w wa w2 : World} {b : Nat} {v0 v1 : Value} {ns ls : List ByteArray} (hC : conAt w w0.heap.size b v0 v1 ns ls) (hB : Below w.heap.size w wa) (hg : wa.grownBy w2 v1.ownBlock) : w2.heap[b]? = some (.cells #[v0, v1] 39 (0, 0)) :=
 ((hg.block b (Nat.lt_of_lt_of_le (con_blt hC) hB.size) (fun e => str_ne hC.2.2.2.1 hC.2.1 (by decide) e.symm)).trans (hB.block b (con_blt hC))).trans hC.2.1
theorem pt_alloc (w : World) (n : Nat) (o : Obj) (k : Nat) (hk : k < w.heap.size) : ((w.drewN n).alloc o).heap[k]? = w.heap[k]? := ((below_alloc (Below.refl (w.drewN n).heap.size (w.drewN n)) o).block k hk)
theorem pt_found {w0 w w3 : World} {b g n c : Nat} {nd : Nat} {v0 : Value} {ns ls y : List ByteArray} {bits : ByteArray} {j : Nat} (hC : conAt w w0.heap.size b v0 (.slice (some ⟨g, 0, none⟩) n c) ns ls) (hW : Below w0.heap.size w0 w) (hP : Kd.R Kd.string 9 (w.setCell ⟨g, j, none⟩ (.string bits)) w0.heap.size (fun _ => True) (.slice (some ⟨g, 0, none⟩) n c) y ∧ w.grownBy (w.setCell ⟨g, j, none⟩ (.string bits)) (some g)) (hw : w3 = (w.setCell ⟨g, j, none⟩ (.string bits)).drewN nd) :
 conAt w3 w0.heap.size b v0 (.slice (some ⟨g, 0, none⟩) n c) ns y ∧ conKept w w3 b v0 (.slice (some ⟨g, 0, none⟩) n c) ∧ Below w0.heap.size w0 w3 ∧ w.heap.size ≤ w3.heap.size := by
 have hk : ∀ k, k < w.heap.size → some k ≠ some g → w3.heap[k]? = w.heap[k]? := fun k hk hne => by rw [hw]; exact hP.2.block k hk hne
 have hb := con_blt hC
 obtain ⟨h1, h2, h3, h4, h5⟩ := hC
 have hgb : some b ≠ some g := fun e => str_ne h4 h2 (by decide) e.symm
 refine ⟨⟨h1, (hk b hb hgb).trans h2, str_row h3 (fun k h6 => hk k (str_lt h3 k h6) (fun e => h5 k h6 e.symm)), by rw [hw]; exact str_row hP.1 (fun k _ => rfl), h5⟩, fun k h6 h7 h8 h9 => hk k h6 (fun e => h9 e.symm), ?_⟩
 rw [hw]
 exact ⟨pw_below_drewN (hW.grown hP.2 hW.size (fun k e => by cases e; exact str_base h4 g rfl)) nd, hP.2.size⟩
set_option maxHeartbeats 8000000 in
set_option maxRecDepth 100000 in
theorem impl_Console_put.calls (k : Nat) (b : Nat) (v0 v1 : Value) (ns ls : List ByteArray) (name bits : ByteArray) (r : Bool) (ns' ls' : List ByteArray) (w0 w : World) (hC : conAt w w0.heap.size b v0 v1 ns ls) (hW : Below w0.heap.size w0 w) (h : impl_Console_put.f k ns ls name bits = some (r, ns', ls')) :
 Calls Tryz.prog 123 #[.pointer (some ⟨b, 0, none⟩), .string name, .string bits] w fun e w' => e = .returned (.bool r) ∧ ∃ v0' v1', conAt w' w0.heap.size b v0' v1' ns' ls' ∧ conKept w w' b v0 v1 ∧ conNew w v0 v0' ∧ conNew w v1 v1' ∧ Below w0.heap.size w0 w' := by
 have hu26 := Tryz.underlying39
 have HC := Aside0.mk hC
 have HW := Aside0.mk hW
 obtain ⟨A0, c0, A1, c1, rfl, rfl, hl0, hl1, hC0, hC1⟩ := con_slices hC
 have HC0 := Aside0.mk hC0
 have HL0 := Aside0.mk hl0
 have hcz0 : w.cell? ⟨b, 0, none⟩ = some (.slice A0 ns.length c0) := (blk_cell hC.2.1 0).trans rfl
 have hcz1 : w.cell? ⟨b, 1, none⟩ = some (.slice A1 ls.length c1) := (blk_cell hC.2.1 1).trans rfl
 have hfz0 := blk_frozen hC.2.1 0
 have hfz1 := blk_frozen hC.2.1 1
 have HBB := Aside0.mk (con_blt hC)
 clear hC hW hl0 hl1 hC0 hC1
 unfold impl_Console_put.f at h
 obtain ⟨⟨i, fd⟩, A1, h⟩ := Option.bind_eq_some_iff.mp h
 have A1_ := Aside0.mk A1
 clear A1
 cases fd with
 | true =>
  rw [if_pos rfl] at h
  by_cases c2 : 0 ≤ i
  rotate_left
  ·rw [if_neg c2] at h
   exact absurd h (by simp)
  rw [if_pos c2] at h
  by_cases c3 : i < (ls.length : Int)
  rotate_left
  ·rw [if_neg c3] at h
   exact absurd h (by simp)
  rw [if_pos c3] at h
  obtain ⟨t, A2, h⟩ := Option.bind_eq_some_iff.mp h
  have A2_ := Aside0.mk A2
  clear A2
  simp only [Option.some.injEq, Prod.mk.injEq] at h
  obtain ⟨rfl, rfl, rfl⟩ := h
  obtain ⟨go9, co9, eo9, gb9, gl9, cl9, HG9⟩ := Kd.R_form HC.out.2.2.2.1 (by omega)
  (first | cases eo9 | (injection eo9 with ea_ en_ ec_; (first | subst ea_ | (injection ea_ with ea_; subst ea_)); subst ec_; clear en_))
  clear gb9 gl9 HG9 cl9
  have p9 := c2
  have q9 := c3
  have c2b0 := decide_eq_true c2
  have c3b0 := decide_eq_true c3
  clear c2 c3
  obtain ⟨hx9, hf9⟩ := Kd.R_celln (⟨#[]⟩ : ByteArray) HC.out.2.2.2.1 i p9 q9
  have HP := Aside0.mk (Kd.R_putg HC.out.2.2.2.1 i bits)
  obtain ⟨y, hy⟩ : ∃ y : List ByteArray, y = ls.set i.toNat bits := ⟨_, rfl⟩
  rw [← hy] at HP A2_
  have HY := Aside0.mk hy
  rw [← hy]
  clear hy
  have HYL := Aside0.mk (show y.length = ls.length by rw [HY.out, List.length_set])
  go_enter Tryz.func123, Tryz.ntmps123
  go_wp2_with (first | (go_at_call 159; (with_reducible refine (slices_BinarySearch_string_string.calls k A0 c0 ns name i true _ ?s1 ?s2 A1_.out).mono ?_); (case s1 => exact HC0.out); (case s2 => exact HL0.out); rintro e w' ⟨rfl, ⟨nd, rfl⟩⟩) | ((with_reducible refine gate_store (t := 9) (p := 25) rfl ?_); refine store_event (t := 9) (p := 25) (v := ?vo) (w1 := ((w.setCell ⟨go9, (i : Int).toNat, none⟩ (.string bits)).drewN nd)) ?hg ?ho ?hn ?hr ?_; (case ho => rfl); (case hg => rfl); (case hn => rfl); (case hr => exact Qh0_); intro w3 hw3; have HK3 := Aside0.mk (pt_found HC.out HW.out HP.out hw3); clear hw3; have hcw0 : w3.cell? ⟨b, 0, none⟩ = some (.slice A0 ns.length c0) := (blk_cell HK3.out.1.2.1 0).trans rfl; have hcw1 : w3.cell? ⟨b, 1, none⟩ = some (.slice (some ⟨go9, 0, none⟩) y.length c1) := (blk_cell HK3.out.1.2.1 1).trans (by rw [HYL.out]; rfl)) | (go_at_call 20; (with_reducible refine (impl_ValidConsole.calls k A0 c0 ns (some ⟨go9, 0, none⟩) c1 y t _ ?v1 ?v2 ?v3 ?v4 A2_.out).mono ?_); (case v1 => exact (Kd.R_reads' HK3.out.1.2.2.1).2.2); (case v2 => exact HL0.out); (case v3 => exact (by have q_ := (Kd.R_reads' HK3.out.1.2.2.2.1).2.2; exact q_)); (case v4 => exact (by have q_ := (Kd.R_reads' HK3.out.1.2.2.2.1).2.1; rw [HYL.out]; exact q_)); rintro e w4 ⟨rfl, hb4⟩; have HV := Aside0.mk hb4; clear hb4))
  go_ret
  exact ⟨rfl, _, _, con_below HK3.out.1 HV.out, conKept_trans HK3.out.2.1 HK3.out.2.2.2 (conNew_refl _ _) (conNew_refl _ _) (conKept_below HV.out), conNew_refl _ _, conNew_refl _ _, below_step HK3.out.2.2.1 HV.out⟩
 | false =>
  replace h : (if 0 ≤ i ∧ i ≤ (ns.length : Int) ∧ i ≤ (ls.length : Int) ∧ ns.length ≤ 1000 ∧ ls.length ≤ 1000 then ((impl_ValidConsole.f k (ns.take i.toNat ++ name :: ns.drop i.toNat) (ls.take i.toNat ++ bits :: ls.drop i.toNat)).bind fun t => (some (t, ns.take i.toNat ++ name :: ns.drop i.toNat, ls.take i.toNat ++ bits :: ls.drop i.toNat))) else (none)) = some (r, ns', ls') := h
  by_cases c2 : 0 ≤ i ∧ i ≤ (ns.length : Int) ∧ i ≤ (ls.length : Int) ∧ ns.length ≤ 1000 ∧ ls.length ≤ 1000
  rotate_left
  ·rw [if_neg c2] at h
   cases h
  rw [if_pos c2] at h
  obtain ⟨t, A2, h⟩ := Option.bind_eq_some_iff.mp h
  have A2_ := Aside0.mk A2
  clear A2
  obtain ⟨j, rfl⟩ := Int.eq_ofNat_of_zero_le c2.1
  simp only [Int.toNat_natCast] at A2_ h
  have CC := Aside0.mk (show j ≤ ns.length ∧ j ≤ ls.length ∧ ns.length ≤ 1000 ∧ ls.length ≤ 1000 by omega)
  clear c2
  obtain ⟨xn, hxn⟩ : ∃ y : List ByteArray, y = ns.take j ++ name :: ns.drop j := ⟨_, rfl⟩
  obtain ⟨xl, hxl⟩ : ∃ y : List ByteArray, y = ls.take j ++ bits :: ls.drop j := ⟨_, rfl⟩
  rw [← hxn, ← hxl] at A2_ h
  simp only [Option.some.injEq, Prod.mk.injEq] at h
  obtain ⟨rfl, rfl, rfl⟩ := h
  have HXN := Aside0.mk hxn
  have HXL := Aside0.mk hxl
  clear hxn hxl
  go_enter Tryz.func123, Tryz.ntmps123
  go_wp2_with (first | (go_at_call 159; (with_reducible refine (slices_BinarySearch_string_string.calls k A0 c0 ns name (j : Int) false _ ?s1 ?s2 A1_.out).mono ?_); (case s1 => exact HC0.out); (case s2 => exact HL0.out); rintro e w' ⟨rfl, ⟨nd, rfl⟩⟩) | (go_at_call 160; (with_reducible refine (slices_Insert_string_string.calls (fun _ => True) w0.heap.size (.slice A0 ns.length c0) ns j _ name _ ?i1 ?i2 ?i3 ?i4 ?i5 ?i6).mono ?_); (case i1 => exact Nat.le_trans HW.out.size (by simp)); (case i2 => exact str_row HC.out.2.2.1 (fun k hk => pt_alloc _ _ _ k (str_lt HC.out.2.2.1 k hk))); (case i3 => exact CC.out.1); (case i4 => exact CC.out.2.2.1); (case i5 => exact fun e => Nat.lt_irrefl _ (str_lt HC.out.2.2.1 _ e)); (case i6 => exact heap_alloc_new (w.drewN nd) _); rintro e w2 ⟨vn, rfl, hr2, hat2, hg2⟩; rw [← HXN.out] at hr2; obtain ⟨An, cn, en⟩ := Kd.R_slice hr2; subst en; have hb2_ := pt_blk0 HC.out (pt_below w nd _) hg2; have hcc0 : w2.cell? ⟨b, 0, none⟩ = some (.slice A0 ns.length c0) := (blk_cell hb2_ 0).trans rfl; have hff0 := blk_frozen hb2_ 0; have hcc1 : w2.cell? ⟨b, 1, none⟩ = some (.slice A1 ls.length c1) := (blk_cell hb2_ 1).trans rfl; have HP3 := Aside0.mk (con_put0 HC.out HW.out (pt_below w nd _) hg2 hr2 hat2 (w3 := (w2.setCell ⟨b, 0, none⟩ (.slice An xn.length cn))) rfl); clear hr2 hat2 hg2 hb2_) | (fail) | (go_at_call 160; (with_reducible refine (slices_Insert_string_string.calls (fun _ => True) w0.heap.size (.slice A1 ls.length c1) ls j _ bits _ ?i1 ?i2 ?i3 ?i4 ?i5 ?i6).mono ?_); (case i1 => exact Nat.le_trans HP3.out.2.2.2.1.size (by simp)); (case i2 => exact str_row HP3.out.1.2.2.2.1 (fun k hk => pt_alloc0 _ _ k (str_lt HP3.out.1.2.2.2.1 k hk))); (case i3 => exact CC.out.2.1); (case i4 => exact CC.out.2.2.2); (case i5 => exact (fun e => by have q_ := str_lt HP3.out.1.2.2.2.1 _ e; rw [World.size_setCell] at q_; exact Nat.lt_irrefl _ q_)); (case i6 => first | exact heap_alloc_new (w2.setCell ⟨b, 0, none⟩ (.slice An xn.length cn)) _ | (have q_ := heap_alloc_new (w2.setCell ⟨b, 0, none⟩ (.slice An xn.length cn)) (.cells #[.string bits] 9 (0, 0)); rw [World.size_setCell] at q_; exact q_)); rintro e w4 ⟨vl, rfl, hr4, hat4, hg4⟩; rw [← HXL.out] at hr4; obtain ⟨Al, cl, el⟩ := Kd.R_slice hr4; subst el; have hb4_ := pt_blk1 HP3.out.1 (pt_below0 (w2.setCell ⟨b, 0, none⟩ (.slice An xn.length cn)) _) hg4; have hcd1 : w4.cell? ⟨b, 1, none⟩ = some (.slice A1 ls.length c1) := (blk_cell hb4_ 1).trans rfl; have hcd0 : w4.cell? ⟨b, 0, none⟩ = some (.slice An xn.length cn) := (blk_cell hb4_ 0).trans rfl; have hff1 := blk_frozen hb4_ 1; have HP5 := Aside0.mk (con_put1 HP3.out.1 HP3.out.2.2.2.1 (pt_below0 (w2.setCell ⟨b, 0, none⟩ (.slice An xn.length cn)) _) hg4 hr4 hat4 (w3 := (w4.setCell ⟨b, 1, none⟩ (.slice Al xl.length cl))) rfl); clear hr4 hat4 hg4 hb4_) | (fail) | (go_at_call 20; (with_reducible refine (impl_ValidConsole.calls k An cn xn Al cl xl t _ ?v1 ?v2 ?v3 ?v4 A2_.out).mono ?_); (case v1 => exact (Kd.R_reads' HP5.out.1.2.2.1).2.2); (case v2 => exact (Kd.R_reads' HP5.out.1.2.2.1).2.1); (case v3 => exact (Kd.R_reads' HP5.out.1.2.2.2.1).2.2); (case v4 => exact (Kd.R_reads' HP5.out.1.2.2.2.1).2.1); rintro e w6 ⟨rfl, hb6⟩; have HV := Aside0.mk hb6; clear hb6))
  go_ret
  exact ⟨rfl, _, _, con_below HP5.out.1 HV.out, conKept_trans (conKept_trans HP3.out.2.1 HP3.out.2.2.2.2 HP3.out.2.2.1 (conNew_refl _ _) HP5.out.2.1) (Nat.le_trans HP3.out.2.2.2.2 HP5.out.2.2.2.2) (conNew_trans HP3.out.2.2.1 HP3.out.2.2.2.2 (conNew_refl _ _)) (conNew_trans (conNew_refl _ _) HP3.out.2.2.2.2 HP5.out.2.2.1) (conKept_below HV.out), HP3.out.2.2.1, conNew_trans (conNew_refl _ _) HP3.out.2.2.2.2 HP5.out.2.2.1, below_step HP5.out.2.2.2.1 HV.out⟩
theorem dl_encs (ls : List (List UInt8)) : ls.map encStr = encs Value.string (ls.map (fun l => (⟨l.toArray⟩ : ByteArray))) := by
 unfold encs
 rw [List.map_map]
 rfl
theorem dl_lists (xs : List ByteArray) : (xs.map (fun x => x.data.toList)).map (fun l => (⟨l.toArray⟩ : ByteArray)) = xs := by
 rw [List.map_map]
 conv => rhs; rw [← List.map_id xs]
 exact List.map_congr_left (fun x _ => ByteArray.ext (Array.ext' rfl))
theorem dl_take {w : World} {base g cap n m : Nat} {e : TypeId} {xs : List Value} (h : w.ownsRow base e 1 (.slice (some ⟨g, 0, none⟩) n cap) n xs) (hm : m ≤ n) : w.ownsRow base e 1 (.slice (some ⟨g, 0, none⟩) m cap) m (xs.take m) := by
 obtain ⟨hl, h⟩ := h
 rcases h with ⟨h, _⟩ | ⟨g', cap', cur, hv, hb, hh, h1, h2, h3, h4⟩
 ·cases h
 ·cases hv
  refine ⟨by rw [List.length_take]; omega, .inr ⟨g, cap, cur, rfl, hb, hh, by omega, h2, h3, ?_⟩⟩
  rw [← h4, List.take_take, Nat.mul_one, Nat.mul_one, Nat.min_eq_left hm]
theorem slices_Delete_string_string.calls (ok : Nat → Prop) (base : Nat) (v : Value) (l : List ByteArray) (i j : Nat) (w : World) (ho : Kd.R Kd.string 9 w base ok v l) (hij : i ≤ j) (hj : j ≤ l.length) (hp : 0 < l.length) :
 Calls Tryz.prog 119 #[v, .int .i64 i, .int .i64 j] w fun e w' => ∃ v' : Value, e = .returned v' ∧ Kd.R Kd.string 9 w' base ok v' (l.take i ++ l.drop j) ∧ v'.ownBlock = v.ownBlock ∧ w.grownBy w' v.ownBlock := by
 have hown := Kd.own_of_R ho
 have hok := ho.1
 rcases hown.2 with ⟨rfl, hn⟩ | ⟨g, cap, cur, rfl, hbase, hb, h1, h2, h3, h4⟩
 ·omega
 have hss : (l.map (fun x : ByteArray => x.data.toList)).length = l.length := List.length_map ..
 have hcur : cur.toList.take (l.map (fun x : ByteArray => x.data.toList)).length = (l.map (fun x : ByteArray => x.data.toList)).map encStr := by
  rw [dl_encs, dl_lists, hss]
  have := h4
  rw [Nat.mul_one] at this
  exact this
 have hH : Go.Sort.Holds encStr w g 0 (l.map (fun x : ByteArray => x.data.toList)).toArray := holds_of_block hb hcur
 have hc := Tryz.slices_Delete_string g 0 cap i j (l.map (fun x : ByteArray => x.data.toList)) w hH (by rw [hss]; exact h1) (by unfold maxLen at h2; omega) hij (by rw [hss]; exact hj)
 rw [hss] at hc
 refine hc.mono fun e w' ⟨he, n, hw⟩ => ?_
 obtain ⟨ts, hts⟩ : ∃ ts, ts = (l.map (fun x : ByteArray => x.data.toList)).take i ++ (l.map (fun x : ByteArray => x.data.toList)).drop j ++ List.replicate (j - i) ([] : List UInt8) := ⟨_, rfl⟩
 rw [← hts] at hw
 have htl : ts.length = (l.map (fun x : ByteArray => x.data.toList)).length := by
  rw [hts, List.length_append, List.length_append, List.length_take, List.length_drop, List.length_replicate, hss]; omega
 have ho2 := ownsRow_sorted (n := n) (os := #[]) (ss := l.map (fun x : ByteArray => x.data.toList)) (ts := ts) htl hbase hb (by rw [hss]; exact h1) h2 h3
 have hgr : w.grownBy _ (some g) := grownBy_sorted (w := w) (g := g) (n := n) (os := #[]) ts.toArray
 rw [Go.Sort.grow_empty, ← hw] at ho2 hgr
 rw [hss] at ho2
 have ho3 := dl_take ho2 (m := l.length - (j - i)) (by omega)
 have he2 : (ts.map encStr).take (l.length - (j - i)) = encs Value.string (l.take i ++ l.drop j) := by
  rw [dl_encs, hts, List.map_append, List.map_append, List.map_take, List.map_drop, dl_lists]
  unfold encs
  rw [← List.map_take, List.take_append_of_le_length (by rw [List.length_append, List.length_take, List.length_drop]; omega), List.take_of_length_le (by rw [List.length_append, List.length_take, List.length_drop]; omega)]
 rw [he2] at ho3
 have hlen : l.length - (j - i) = (l.take i ++ l.drop j).length := by rw [List.length_append, List.length_take, List.length_drop]; omega
 rw [hlen] at ho3 he
 exact ⟨_, he, Kd.R_of_own ho3 (fun k hk => hok k hk), rfl, hgr⟩
theorem ca_blt {w : World} {g : Nat} {o : Obj} (h : w.heap[g]? = some o) : g < w.heap.size := by
 rcases Nat.lt_or_ge g w.heap.size with h6 | h6
 ·exact h6
 ·rw [Array.getElem?_eq_none h6] at h
  cases h
theorem ca_delete (base : Nat) (v : Value) (l : List ByteArray) (j : Nat) (w : World) (ho : Kd.R Kd.string 9 w base (fun _ => True) v l) (hj : j < l.length) :
 Calls Tryz.prog 119 #[v, .int .i64 (j : Int), .int .i64 ((j : Int) + 1)] w fun e w' => ∃ v' : Value, e = .returned v' ∧ Kd.R Kd.string 9 w' base (fun _ => True) v' (l.take j ++ l.drop (j + 1)) ∧ v'.ownBlock = v.ownBlock ∧ w.grownBy w' v.ownBlock :=
 slices_Delete_string_string.calls (fun _ => True) base v l j (j + 1) w ho (Nat.le_succ j) hj (Nat.lt_of_le_of_lt (Nat.zero_le _) hj)
theorem ca_cell {w : World} {g b i j : Nat} {u v : Value} (h : w.cell? ⟨b, j, none⟩ = some v) (hne : b ≠ g) : (w.setCell ⟨g, i, none⟩ u).cell? ⟨b, j, none⟩ = some v := by
 rw [← h]
 unfold World.cell?
 rw [Below.heap_setCell w ⟨g, i, none⟩ u b hne]
theorem ca_apart {w : World} {b g t t' : Nat} {c c' : Array Value} (h : w.heap[b]? = some (.cells c t (0, 0))) (h' : w.heap[g]? = some (.cells c' t' (0, 0))) (ht : t ≠ t') : b ≠ g := by
 rintro rfl
 rw [h] at h'
 injection h' with h1
 injection h1 with _ h2 _
 exact ht h2
theorem ca_names {w0 w wa w2 w3 : World} {b g : Nat} {v0 v1 v0' : Value} {ns ls ns' : List ByteArray} {cs : Array Value} (hC : conAt w w0.heap.size b v0 v1 ns ls) (hW : Below w0.heap.size w0 w) (hG : w.heap[g]? = some (.cells cs 105 (0, 0))) (hB : Below w.heap.size w wa) (hg : wa.grownBy w2 v0.ownBlock) (ho : Kd.R Kd.string 9 w2 w0.heap.size (fun _ => True) v0' ns') (hat : v0'.ownBlock = v0.ownBlock) (hw : w3 = w2.setCell ⟨b, 0, none⟩ v0') :
 conAt w3 w0.heap.size b v0' v1 ns' ls ∧ Below w0.heap.size w0 w3 ∧ w3.heap[g]? = some (.cells cs 105 (0, 0)) := by
 have h := con_put0 hC hW hB hg ho (.inl hat) hw
 refine ⟨h.1, h.2.2.2.1, ?_⟩
 rw [hw]
 refine (Below.heap_setCell _ _ _ g (fun e => ca_apart hC.2.1 hG (by decide) e.symm)).trans ?_
 have hl : g < w.heap.size := by
  rcases Nat.lt_or_ge g w.heap.size with h6 | h6
  ·exact h6
  ·rw [Array.getElem?_eq_none h6] at hG
   cases hG
 exact ((hg.block g (Nat.lt_of_lt_of_le hl hB.size) (fun e => str_ne hC.2.2.1 hG (by decide) e.symm)).trans (hB.block g hl)).trans hG
def impl_Console_carry.f (k : Nat) (ns ls : List ByteArray) (wd : ByteArray) (fr : ByteArray) (p : Int) (bi : ByteArray) (n li : List Int) : Option (ByteArray × Bool × List ByteArray × List ByteArray) :=
 if wd.toList = ([100, 114, 111, 112] : List UInt8) then (if 0 ≤ p ∧ p < (ns.length : Int) ∧ p < (ls.length : Int) ∧ ns.length ≤ 1000 then (some ((⟨#[111, 107]⟩ : ByteArray), true, ns.take p.toNat ++ ns.drop (p.toNat + 1), ls.take p.toNat ++ ls.drop (p.toNat + 1))) else none)
 else (if wd.toList = ([115, 104, 111, 119] : List UInt8) then ((impl_orNone.f bi).bind fun t => (some (t, true, ns, ls)))
 else (if wd.toList = ([102, 108, 105, 112] : List UInt8) then (if 0 < (n.length : Int) then ((impl_within.f (rd n 0) 0 (wrap64 ((bi.size : Int) - 1))).bind fun t => (if t = true then (if 0 ≤ rd n 0 ∧ rd n 0 < (bi.size : Int) ∧ bi.size ≤ 100000 ∧ 0 ≤ p ∧ p < (ls.length : Int) then ((impl_opposite.f k (bi.extract (rd n 0).toNat ((rd n 0).toNat + 1))).bind fun o => (if o.size ≤ 100000 then (some ((⟨#[111, 107]⟩ : ByteArray), true, ns, ls.set p.toNat ((bi.extract 0 (rd n 0).toNat ++ o) ++ bi.extract ((rd n 0).toNat + 1) bi.size))) else none)) else none) else (some ((⟨#[]⟩ : ByteArray), false, ns, ls)))) else none)
 else (if wd.toList = ([100, 97, 116, 97] : List UInt8) then ((impl_decoded.f k fr p bi n li).bind fun t => (some (t.1, t.2, ns, ls)))
 else (if wd.toList = ([118, 101, 114, 105, 102, 121] : List UInt8) then (if 0 < (n.length : Int) then ((impl_HasCheck.f k (rd n 0) bi).bind fun t => (if t = true then (some ((⟨#[121, 101, 115]⟩ : ByteArray), true, ns, ls)) else (some ((⟨#[110, 111, 116]⟩ : ByteArray), true, ns, ls)))) else none)
 else ((impl_made.f k wd fr p bi n li).bind fun t => (if t.2.2 = true then ((impl_Console_put.f k ns ls fr t.1).bind fun u => (some (t.2.1, u.1, u.2.1, u.2.2))) else (some (t.2.1, false, ns, ls))))))))
set_option maxHeartbeats 8000000 in
set_option maxRecDepth 100000 in
theorem impl_Console_carry.calls (k : Nat) (b : Nat) (v0 v1 : Value) (ns ls : List ByteArray) (wd : ByteArray) (fr : ByteArray) (p : Int) (bi : ByteArray) (A3 : Option Addr) (c3 : Nat) (n : List Int) (A4 : Option Addr) (c4 : Nat) (li : List Int) (r1 : ByteArray) (r2 : Bool) (ns' ls' : List ByteArray) (w0 w : World) (hC : conAt w w0.heap.size b v0 v1 ns ls) (hW : Below w0.heap.size w0 w) (hr3 : Kd.C (Kd.int .i64) w A3 n.length n) (hc3 : n.length ≤ c3) (hr4 : Kd.C (Kd.int .i64) w A4 li.length li) (hc4 : li.length ≤ c4) (hT : LibW w) (h : impl_Console_carry.f k ns ls wd fr p bi n li = some (r1, r2, ns', ls')) :
 Calls Tryz.prog 91 #[.pointer (some ⟨b, 0, none⟩), .string wd, .agg #[.string fr, .int .i64 p, .string bi, .slice A3 n.length c3, .slice A4 li.length c4]] w fun e w' => e = .returned (.tuple #[.string r1, .bool r2]) ∧ ∃ v0' v1', conAt w' w0.heap.size b v0' v1' ns' ls' ∧ Below w0.heap.size w0 w' := by
 have hu26 := Tryz.underlying39
 have hu59 := Tryz.underlying105
 have HC := Aside0.mk hC
 have HW := Aside0.mk hW
 have HR3 := Aside0.mk hr3
 have HC3 := Aside0.mk hc3
 have HR4 := Aside0.mk hr4
 have HC4 := Aside0.mk hc4
 have HT := Aside0.mk hT
 obtain ⟨A0, c0, A1, c1, rfl, rfl, hl0, hl1, hC0, hC1⟩ := con_slices hC
 have HB := Aside0.mk (Below.refl w.heap.size w)
 clear hC hW hr3 hc3 hr4 hc4 hT hl0 hl1 hC0 hC1
 unfold impl_Console_carry.f at h
 by_cases d1 : wd.toList = ([100, 114, 111, 112] : List UInt8)
 ·rw [if_pos d1] at h
  have d1b0 : (wd.toList == ([100, 114, 111, 112] : List UInt8)) = true := beq_iff_eq.mpr d1
  clear d1
  by_cases e1 : 0 ≤ p ∧ p < (ns.length : Int) ∧ p < (ls.length : Int) ∧ ns.length ≤ 1000
  rotate_left
  ·rw [if_neg e1] at h
   cases h
  rw [if_pos e1] at h
  obtain ⟨j, rfl⟩ := Int.eq_ofNat_of_zero_le e1.1
  simp only [Int.toNat_natCast, Option.some.injEq, Prod.mk.injEq] at h
  obtain ⟨rfl, rfl, rfl, rfl⟩ := h
  have E1 := Aside0.mk (show j < ns.length ∧ j < ls.length by omega)
  have hj1w : IntKind.i64.wrap ((j : Int) + 1) = ((j + 1 : Nat) : Int) := by rw [show ((j : Int) + 1) = ((j + 1 : Nat) : Int) by omega]; exact IntWalk.i64_in _ (by omega)
  clear e1
  obtain ⟨y0, hy0⟩ : ∃ y : List ByteArray, y = ns.take j ++ ns.drop (j + 1) := ⟨_, rfl⟩
  obtain ⟨y1, hy1⟩ : ∃ y : List ByteArray, y = ls.take j ++ ls.drop (j + 1) := ⟨_, rfl⟩
  have HY0 := Aside0.mk hy0
  have HY1 := Aside0.mk hy1
  rw [← hy0, ← hy1]
  clear hy0 hy1
  go_enter Tryz.func91, Tryz.ntmps91
  go_wp2_with (first | ((with_reducible refine gate_dst (N := 5) rfl ?_); (try (refine gate_guard (by rfl) ?_; dsimp only)); refine box_event ?hg (N := 5) ?hd (cs := #[.string fr, .int .i64 (j : Int), .string bi, .slice A3 n.length c3, .slice A4 li.length c4]) (t := 105) ?hr ?_; (case hd => rfl); (case hg => rfl); (case hr => exact Qh0_); intro gg hggg wgg hbox hb; have n0_ := Aside0.mk (below_step Qa0_ hb); have n1_ := Aside0.mk (hbox); clear HB; have HB := n0_; have BKgg := n1_; clear n0_ n1_; clear hb hbox hggg; have hczgg0 : wgg.cell? ⟨gg, 0, none⟩ = some (.string fr) := (blk_cell BKgg.out 0).trans rfl; have hczgg1 : wgg.cell? ⟨gg, 1, none⟩ = some (.int .i64 (j : Int)) := (blk_cell BKgg.out 1).trans rfl; have hczgg2 : wgg.cell? ⟨gg, 2, none⟩ = some (.string bi) := (blk_cell BKgg.out 2).trans rfl; have hczgg3 : wgg.cell? ⟨gg, 3, none⟩ = some (.slice A3 n.length c3) := (blk_cell BKgg.out 3).trans rfl; have hczgg4 : wgg.cell? ⟨gg, 4, none⟩ = some (.slice A4 li.length c4) := (blk_cell BKgg.out 4).trans rfl; have hcc0 : wgg.cell? ⟨b, 0, none⟩ = some (.slice A0 ns.length c0) := (blk_cell (con_below HC.out HB.out).2.1 0).trans rfl; have hcc1 : wgg.cell? ⟨b, 1, none⟩ = some (.slice A1 ls.length c1) := (blk_cell (con_below HC.out HB.out).2.1 1).trans rfl))
  have HCg := Aside0.mk (con_below HC.out HB.out)
  have HWg := Aside0.mk (below_step HW.out HB.out)
  go_cut [] (fun wx => ∃ An cn, conAt wx w0.heap.size b (.slice An y0.length cn) (.slice A1 ls.length c1) y0 ls ∧ Below w0.heap.size w0 wx ∧ wx.heap[gg]? = some (.cells #[.string fr, .int .i64 (j : Int), .string bi, .slice A3 n.length c3, .slice A4 li.length c4] 105 (0, 0)))
  case first =>
   go_region_with (go_at_call 119; (with_reducible refine (ca_delete w0.heap.size (.slice A0 ns.length c0) ns j _ ?s1 ?s2).mono ?_); (case s1 => exact HCg.out.2.2.1); (case s2 => exact E1.out.1); rintro e w2 ⟨vn, rfl, hr2, hat2, hg2⟩; rw [← HY0.out] at hr2; obtain ⟨An, cn, en⟩ := Kd.R_slice hr2; subst en; have hb2_ := pt_blk0 HCg.out Qj0_ hg2; have hcd0 : w2.cell? ⟨b, 0, none⟩ = some (.slice A0 ns.length c0) := (blk_cell hb2_ 0).trans rfl; have hfd0 := blk_frozen hb2_ 0; have HP3 := Aside0.mk (ca_names HCg.out HWg.out BKgg.out Qj0_ hg2 hr2 hat2 (w3 := w2.setCell ⟨b, 0, none⟩ (.slice An y0.length cn)) rfl); clear hr2 hat2 hg2 hb2_)
   all_goals (go_wp2; go_meet; exact ⟨An, cn, HP3.out.1, HP3.out.2.1, HP3.out.2.2⟩)
  case rest =>
   obtain ⟨An, cn, h1, h2, h3⟩ := hcut
   have HCg := Aside0.mk h1
   have HWg := Aside0.mk h2
   have BKgg := Aside0.mk h3
   have hcc1 : wc.cell? ⟨b, 1, none⟩ = some (.slice A1 ls.length c1) := (blk_cell h1.2.1 1).trans rfl
   have hczgg1 : wc.cell? ⟨gg, 1, none⟩ = some (.int .i64 (j : Int)) := (blk_cell h3 1).trans rfl
   clear h1 h2 h3
   go_wp2
   go_region_with (go_at_call 119; (with_reducible refine (ca_delete w0.heap.size (.slice A1 ls.length c1) ls j _ ?t1 ?t2).mono ?_); (case t1 => exact HCg.out.2.2.2.1); (case t2 => exact E1.out.2); rintro e w2 ⟨vn, rfl, hr2, hat2, hg2⟩; rw [← HY1.out] at hr2; obtain ⟨Al, cl, en⟩ := Kd.R_slice hr2; subst en; have hb2_ := pt_blk1 HCg.out Qj0_ hg2; have hcd1 : w2.cell? ⟨b, 1, none⟩ = some (.slice A1 ls.length c1) := (blk_cell hb2_ 1).trans rfl; have hfd1 := blk_frozen hb2_ 1; have HP5 := Aside0.mk (con_put1 HCg.out HWg.out Qj0_ hg2 hr2 (.inl hat2) (w3 := w2.setCell ⟨b, 1, none⟩ (.slice Al y1.length cl)) rfl); clear hr2 hat2 hg2 hb2_)
   all_goals (go_wp2; go_ret2; exact ⟨rfl, _, _, HP5.out.1, HP5.out.2.2.2.1⟩)
 rw [if_neg d1] at h
 have d1b0 : (wd.toList == ([100, 114, 111, 112] : List UInt8)) = false := beq_eq_false_iff_ne.mpr d1
 clear d1
 by_cases d2 : wd.toList = ([115, 104, 111, 119] : List UInt8)
 ·rw [if_pos d2] at h
  have d2b0 : (wd.toList == ([115, 104, 111, 119] : List UInt8)) = true := beq_iff_eq.mpr d2
  clear d2
  obtain ⟨t, B1, h⟩ := Option.bind_eq_some_iff.mp h
  have B1_ := Aside0.mk B1
  clear B1
  simp only [Option.some.injEq, Prod.mk.injEq] at h
  obtain ⟨rfl, rfl, rfl, rfl⟩ := h
  go_enter Tryz.func91, Tryz.ntmps91
  go_wp2_with (first | ((with_reducible refine gate_dst (N := 5) rfl ?_); (try (refine gate_guard (by rfl) ?_; dsimp only)); refine box_event ?hg (N := 5) ?hd (cs := #[.string fr, .int .i64 p, .string bi, .slice A3 n.length c3, .slice A4 li.length c4]) (t := 105) ?hr ?_; (case hd => rfl); (case hg => rfl); (case hr => exact Qh0_); intro gg hggg wgg hbox hb; have n0_ := Aside0.mk (below_step Qa0_ hb); have n1_ := Aside0.mk (hbox); clear HB; have HB := n0_; have BKgg := n1_; clear n0_ n1_; clear hb hbox hggg; have hczgg0 : wgg.cell? ⟨gg, 0, none⟩ = some (.string fr) := (blk_cell BKgg.out 0).trans rfl; have hczgg1 : wgg.cell? ⟨gg, 1, none⟩ = some (.int .i64 p) := (blk_cell BKgg.out 1).trans rfl; have hczgg2 : wgg.cell? ⟨gg, 2, none⟩ = some (.string bi) := (blk_cell BKgg.out 2).trans rfl; have hczgg3 : wgg.cell? ⟨gg, 3, none⟩ = some (.slice A3 n.length c3) := (blk_cell BKgg.out 3).trans rfl; have hczgg4 : wgg.cell? ⟨gg, 4, none⟩ = some (.slice A4 li.length c4) := (blk_cell BKgg.out 4).trans rfl; have hcc0 : wgg.cell? ⟨b, 0, none⟩ = some (.slice A0 ns.length c0) := (blk_cell (con_below HC.out HB.out).2.1 0).trans rfl; have hcc1 : wgg.cell? ⟨b, 1, none⟩ = some (.slice A1 ls.length c1) := (blk_cell (con_below HC.out HB.out).2.1 1).trans rfl) | (go_at_call 120; (with_reducible refine (impl_orNone.calls bi t _ B1_.out).mono ?_); rintro e w2 ⟨rfl, ⟨nd, rfl⟩⟩))
  go_ret2
  exact ⟨rfl, _, _, con_below HC.out (pw_below_drewN HB.out _), below_step HW.out (pw_below_drewN HB.out _)⟩
 rw [if_neg d2] at h
 have d2b0 : (wd.toList == ([115, 104, 111, 119] : List UInt8)) = false := beq_eq_false_iff_ne.mpr d2
 clear d2
 by_cases d3 : wd.toList = ([102, 108, 105, 112] : List UInt8)
 ·rw [if_pos d3] at h
  have d3b0 : (wd.toList == ([102, 108, 105, 112] : List UInt8)) = true := beq_iff_eq.mpr d3
  clear d3
  by_cases e1 : 0 < (n.length : Int)
  rotate_left
  ·rw [if_neg e1] at h
   cases h
  rw [if_pos e1] at h
  obtain ⟨ad, ed, hx0⟩ := Kd.at_int HR3.out 0 (by decide) (by omega)
  cases ed
  obtain ⟨x, hx⟩ : ∃ y : Int, rd n 0 = y := ⟨_, rfl⟩
  obtain ⟨z, hz⟩ : ∃ y : Int, wrap64 ((bi.size : Int) - 1) = y := ⟨_, rfl⟩
  rw [hx] at h hx0
  rw [hz] at h
  have hzw : IntKind.i64.wrap ((bi.size : Int) - 1) = z := (i64_w _).trans hz
  have HX := Aside0.mk (show w.cell? ad = some (.int .i64 x) by simpa [Addr.add] using hx0)
  have HX0 := Aside0.mk (show w.cell? (ad.add 0) = some (.int .i64 x) from hx0)
  have HX1 := Aside0.mk hx0
  have pn : (0 < n.length) = True := eq_true (by omega)
  have qn : (0 < (n.length : Int)) = True := eq_true (by omega)
  clear e1 hx0 hx hz
  obtain ⟨t, B1, h⟩ := Option.bind_eq_some_iff.mp h
  have B1_ := Aside0.mk B1
  clear B1
  cases t with
  | false =>
   rw [if_neg (fun h_ => Bool.false_ne_true h_)] at h
   simp only [Option.some.injEq, Prod.mk.injEq] at h
   obtain ⟨rfl, rfl, rfl, rfl⟩ := h
   go_enter Tryz.func91, Tryz.ntmps91
   go_wp2_with (first | ((with_reducible refine gate_dst (N := 5) rfl ?_); (try (refine gate_guard (by rfl) ?_; dsimp only)); refine box_event ?hg (N := 5) ?hd (cs := #[.string fr, .int .i64 p, .string bi, .slice (some ad) n.length c3, .slice A4 li.length c4]) (t := 105) ?hr ?_; (case hd => rfl); (case hg => rfl); (case hr => exact Qh0_); intro gg hggg wgg hbox hb; have n0_ := Aside0.mk (below_step Qa0_ hb); have n1_ := Aside0.mk (hbox); clear HB; have HB := n0_; have BKgg := n1_; clear n0_ n1_; clear hb hbox hggg; have hczgg0 : wgg.cell? ⟨gg, 0, none⟩ = some (.string fr) := (blk_cell BKgg.out 0).trans rfl; have hczgg1 : wgg.cell? ⟨gg, 1, none⟩ = some (.int .i64 p) := (blk_cell BKgg.out 1).trans rfl; have hczgg2 : wgg.cell? ⟨gg, 2, none⟩ = some (.string bi) := (blk_cell BKgg.out 2).trans rfl; have hczgg3 : wgg.cell? ⟨gg, 3, none⟩ = some (.slice (some ad) n.length c3) := (blk_cell BKgg.out 3).trans rfl; have hczgg4 : wgg.cell? ⟨gg, 4, none⟩ = some (.slice A4 li.length c4) := (blk_cell BKgg.out 4).trans rfl; have hcc0 : wgg.cell? ⟨b, 0, none⟩ = some (.slice A0 ns.length c0) := (blk_cell (con_below HC.out HB.out).2.1 0).trans rfl; have hcc1 : wgg.cell? ⟨b, 1, none⟩ = some (.slice A1 ls.length c1) := (blk_cell (con_below HC.out HB.out).2.1 1).trans rfl; have hxn : wgg.cell? ad = some (.int .i64 (x)) := pw_cell_below HB.out HX.out; have hxn0 : wgg.cell? (ad.add 0) = some (.int .i64 (x)) := pw_cell_below HB.out HX0.out; have hxn1 := pw_cell_below HB.out HX1.out))
   go_quiet (first | (go_at_call 63; (with_reducible refine (impl_within.calls x 0 z false _ B1_.out).mono ?_); rintro e w' ⟨rfl, ⟨nd, rfl⟩⟩; (try first | exact ⟨rfl, _, World.drewN_drewN _ _ _⟩ | exact ⟨rfl, _, Eq.trans (World.drewN_drewN _ _ _) (congrArg (World.drewN _) (Nat.add_assoc _ _ _))⟩)))
   go_wp2
   go_ret2
   exact ⟨rfl, _, _, con_below HC.out (pw_below_drewN HB.out _), below_step HW.out (pw_below_drewN HB.out _)⟩
  | true =>
   rw [if_pos rfl] at h
   by_cases e2 : 0 ≤ x ∧ x < (bi.size : Int) ∧ bi.size ≤ 100000 ∧ 0 ≤ p ∧ p < (ls.length : Int)
   rotate_left
   ·rw [if_neg e2] at h
    cases h
   rw [if_pos e2] at h
   obtain ⟨x1, hx1⟩ : ∃ y : Int, x + 1 = y := ⟨_, rfl⟩
   have hx1n : x.toNat + 1 = x1.toNat := by omega
   rw [hx1n] at h
   obtain ⟨o, B2, h⟩ := Option.bind_eq_some_iff.mp h
   have B2_ := Aside0.mk B2
   clear B2
   by_cases e3 : o.size ≤ 100000
   rotate_left
   ·rw [if_neg e3] at h
    cases h
   rw [if_pos e3] at h
   simp only [Option.some.injEq, Prod.mk.injEq] at h
   obtain ⟨rfl, rfl, rfl, rfl⟩ := h
   have E2 := Aside0.mk (show 0 ≤ x ∧ x < (bi.size : Int) ∧ bi.size ≤ 100000 ∧ 0 ≤ p ∧ p < (ls.length : Int) ∧ o.size ≤ 100000 ∧ x1 = x + 1 from ⟨e2.1, e2.2.1, e2.2.2.1, e2.2.2.2.1, e2.2.2.2.2, e3, hx1.symm⟩)
   obtain ⟨go9, co9, eo9, gb9, gl9, cl9, HG9⟩ := Kd.R_form HC.out.2.2.2.1 (by omega)
   (first | cases eo9 | (injection eo9 with ea_ en_ ec_; (first | subst ea_ | (injection ea_ with ea_; subst ea_)); subst ec_; clear en_))
   clear gb9 gl9 HG9 cl9
   have hx1w : IntKind.i64.wrap (x + 1) = x1 := by rw [hx1]; exact IntWalk.i64_in _ (by omega)
   have f1 : (0 ≤ x) = True := eq_true (by omega)
   have f2 : (x ≤ x1) = True := eq_true (by omega)
   have f3 : (x1 ≤ (bi.size : Int)) = True := eq_true (by omega)
   have f4 : (0 ≤ x1) = True := eq_true (by omega)
   have f5 : (x ≤ (bi.size : Int)) = True := eq_true (by omega)
   have f6 : (0 ≤ p) = True := eq_true (by omega)
   have f7 : (p < (ls.length : Int)) = True := eq_true (by omega)
   have f8 : (x.toNat + o.size ≤ 9223372036854775807) = True := eq_true (by omega)
   have f9 : (x.toNat + o.size + (bi.size - x1.toNat) ≤ 9223372036854775807) = True := eq_true (by omega)
   have f10 : (9223372036854775807 < x.toNat + o.size) = False := eq_false (by omega)
   have f11 : (9223372036854775807 < x.toNat + o.size + (bi.size - x1.toNat)) = False := eq_false (by omega)
   obtain ⟨y1, hy1⟩ : ∃ y : ByteArray, y = (bi.extract 0 x.toNat ++ o) ++ bi.extract x1.toNat bi.size := ⟨_, rfl⟩
   have HY1 := Aside0.mk hy1
   rw [← hy1]
   clear hy1 e2 e3 hx1 hx1n
   go_enter Tryz.func91, Tryz.ntmps91
   go_wp2_with (first | ((with_reducible refine gate_dst (N := 5) rfl ?_); (try (refine gate_guard (by rfl) ?_; dsimp only)); refine box_event ?hg (N := 5) ?hd (cs := #[.string fr, .int .i64 p, .string bi, .slice (some ad) n.length c3, .slice A4 li.length c4]) (t := 105) ?hr ?_; (case hd => rfl); (case hg => rfl); (case hr => exact Qh0_); intro gg hggg wgg hbox hb; have n0_ := Aside0.mk (below_step Qa0_ hb); have n1_ := Aside0.mk (hbox); clear HB; have HB := n0_; have BKgg := n1_; clear n0_ n1_; clear hb hbox hggg; have hczgg0 : wgg.cell? ⟨gg, 0, none⟩ = some (.string fr) := (blk_cell BKgg.out 0).trans rfl; have hczgg1 : wgg.cell? ⟨gg, 1, none⟩ = some (.int .i64 p) := (blk_cell BKgg.out 1).trans rfl; have hczgg2 : wgg.cell? ⟨gg, 2, none⟩ = some (.string bi) := (blk_cell BKgg.out 2).trans rfl; have hczgg3 : wgg.cell? ⟨gg, 3, none⟩ = some (.slice (some ad) n.length c3) := (blk_cell BKgg.out 3).trans rfl; have hczgg4 : wgg.cell? ⟨gg, 4, none⟩ = some (.slice A4 li.length c4) := (blk_cell BKgg.out 4).trans rfl; have hcc0 : wgg.cell? ⟨b, 0, none⟩ = some (.slice A0 ns.length c0) := (blk_cell (con_below HC.out HB.out).2.1 0).trans rfl; have hcc1 : wgg.cell? ⟨b, 1, none⟩ = some (.slice (some ⟨go9, 0, none⟩) ls.length c1) := (blk_cell (con_below HC.out HB.out).2.1 1).trans rfl; have hxn : wgg.cell? ad = some (.int .i64 (x)) := pw_cell_below HB.out HX.out; have hxn0 : wgg.cell? (ad.add 0) = some (.int .i64 (x)) := pw_cell_below HB.out HX0.out; have hxn1 := pw_cell_below HB.out HX1.out))
   go_quiet (first | (go_at_call 63; (with_reducible refine (impl_within.calls x 0 z true _ B1_.out).mono ?_); rintro e w' ⟨rfl, ⟨nd, rfl⟩⟩; (try first | exact ⟨rfl, _, World.drewN_drewN _ _ _⟩ | exact ⟨rfl, _, Eq.trans (World.drewN_drewN _ _ _) (congrArg (World.drewN _) (Nat.add_assoc _ _ _))⟩)))
   go_wp2
   have HCg := Aside0.mk (con_below HC.out HB.out)
   have HWg := Aside0.mk (below_step HW.out HB.out)
   obtain ⟨hx9, hf9⟩ := Kd.R_celln (⟨#[]⟩ : ByteArray) HCg.out.2.2.2.1 p E2.out.2.2.2.1 E2.out.2.2.2.2.1
   have hnb : b ≠ go9 := fun e => str_ne HC.out.2.2.2.1 HC.out.2.1 (by decide) (by rw [e]; rfl)
   have hng : gg ≠ go9 := fun e => str_ne HCg.out.2.2.2.1 BKgg.out (by decide) (by rw [e]; rfl)
   go_region_held3 (fun w' => w'.cell? ⟨b, 1, none⟩ = some (.slice (some ⟨go9, 0, none⟩) ls.length c1) ∧ w'.cell? ⟨gg, 1, none⟩ = some (.int .i64 p) ∧ w'.cell? ⟨gg, 2, none⟩ = some (.string bi)) (first | exact ⟨hcc1, hczgg1, hczgg2⟩ | exact ⟨hcd1, hce1, hce2⟩ | exact ⟨ca_cell hcd1 hnb, ca_cell hce1 hng, ca_cell hce2 hng⟩) (first | (go_at_call 25; (with_reducible refine (impl_opposite.calls k (bi.extract x.toNat x1.toNat) o _ B2_.out).mono ?_); rintro e w2 ⟨rfl, hb2⟩; have HB2 := Aside0.mk (below_step (below_drew1 (pw_below_drewN (Below.refl wgg.heap.size wgg) nq)) hb2); clear hb2; have HC2 := Aside0.mk (con_below HCg.out HB2.out); have HW2 := Aside0.mk (below_step HWg.out HB2.out); have hcd1 : w2.cell? ⟨b, 1, none⟩ = some (.slice (some ⟨go9, 0, none⟩) ls.length c1) := (blk_cell HC2.out.2.1 1).trans rfl; have hce1 : w2.cell? ⟨gg, 1, none⟩ = some (.int .i64 p) := pw_cell_below HB2.out hczgg1; have hce2 : w2.cell? ⟨gg, 2, none⟩ = some (.string bi) := pw_cell_below HB2.out hczgg2; obtain ⟨hx9, hf9⟩ := Kd.R_celln (⟨#[]⟩ : ByteArray) HC2.out.2.2.2.1 p E2.out.2.2.2.1 E2.out.2.2.2.2.1))
   all_goals (go_wp2; go_ret2; rw [HY1.out]; exact ⟨rfl, _, _, (pt_found HC2.out HW2.out (Kd.R_putg HC2.out.2.2.2.1 p _) (nd := 0) rfl).1, (pt_found HC2.out HW2.out (Kd.R_putg HC2.out.2.2.2.1 p _) (nd := 0) rfl).2.2.1⟩)
 rw [if_neg d3] at h
 have d3b0 : (wd.toList == ([102, 108, 105, 112] : List UInt8)) = false := beq_eq_false_iff_ne.mpr d3
 clear d3
 by_cases d4 : wd.toList = ([100, 97, 116, 97] : List UInt8)
 ·rw [if_pos d4] at h
  have d4b0 : (wd.toList == ([100, 97, 116, 97] : List UInt8)) = true := beq_iff_eq.mpr d4
  clear d4
  obtain ⟨⟨t, u⟩, B1, h⟩ := Option.bind_eq_some_iff.mp h
  have B1_ := Aside0.mk B1
  clear B1
  simp only [Option.some.injEq, Prod.mk.injEq] at h
  obtain ⟨rfl, rfl, rfl, rfl⟩ := h
  go_enter Tryz.func91, Tryz.ntmps91
  go_wp2_with (first | ((with_reducible refine gate_dst (N := 5) rfl ?_); (try (refine gate_guard (by rfl) ?_; dsimp only)); refine box_event ?hg (N := 5) ?hd (cs := #[.string fr, .int .i64 p, .string bi, .slice A3 n.length c3, .slice A4 li.length c4]) (t := 105) ?hr ?_; (case hd => rfl); (case hg => rfl); (case hr => exact Qh0_); intro gg hggg wgg hbox hb; have n0_ := Aside0.mk (below_step Qa0_ hb); have n1_ := Aside0.mk (hbox); clear HB; have HB := n0_; have BKgg := n1_; clear n0_ n1_; clear hb hbox hggg; have hczgg0 : wgg.cell? ⟨gg, 0, none⟩ = some (.string fr) := (blk_cell BKgg.out 0).trans rfl; have hczgg1 : wgg.cell? ⟨gg, 1, none⟩ = some (.int .i64 p) := (blk_cell BKgg.out 1).trans rfl; have hczgg2 : wgg.cell? ⟨gg, 2, none⟩ = some (.string bi) := (blk_cell BKgg.out 2).trans rfl; have hczgg3 : wgg.cell? ⟨gg, 3, none⟩ = some (.slice A3 n.length c3) := (blk_cell BKgg.out 3).trans rfl; have hczgg4 : wgg.cell? ⟨gg, 4, none⟩ = some (.slice A4 li.length c4) := (blk_cell BKgg.out 4).trans rfl; have hcc0 : wgg.cell? ⟨b, 0, none⟩ = some (.slice A0 ns.length c0) := (blk_cell (con_below HC.out HB.out).2.1 0).trans rfl; have hcc1 : wgg.cell? ⟨b, 1, none⟩ = some (.slice A1 ls.length c1) := (blk_cell (con_below HC.out HB.out).2.1 1).trans rfl) | (go_at_call 121; (with_reducible refine (impl_decoded.calls k fr p bi A3 c3 n A4 c4 li t u _ ?s1 ?s2 ?s3 ?s4 ?s5 B1_.out).mono ?_); (case s1 => exact Kd.C_below HR3.out HB.out); (case s2 => exact HC3.out); (case s3 => exact Kd.C_below HR4.out HB.out); (case s4 => exact HC4.out); (case s5 => exact tabBelow HT.out HB.out); rintro e w2 ⟨rfl, hb2⟩; have HB2 := Aside0.mk (below_step HB.out hb2); clear hb2))
  go_ret2
  exact ⟨rfl, _, _, con_below HC.out HB2.out, below_step HW.out HB2.out⟩
 rw [if_neg d4] at h
 have d4b0 : (wd.toList == ([100, 97, 116, 97] : List UInt8)) = false := beq_eq_false_iff_ne.mpr d4
 clear d4
 by_cases d5 : wd.toList = ([118, 101, 114, 105, 102, 121] : List UInt8)
 ·rw [if_pos d5] at h
  have d5b0 : (wd.toList == ([118, 101, 114, 105, 102, 121] : List UInt8)) = true := beq_iff_eq.mpr d5
  clear d5
  by_cases e1 : 0 < (n.length : Int)
  rotate_left
  ·rw [if_neg e1] at h
   cases h
  rw [if_pos e1] at h
  obtain ⟨ad, ed, hx0⟩ := Kd.at_int HR3.out 0 (by decide) (by omega)
  cases ed
  have HX := Aside0.mk (show w.cell? ad = some (.int .i64 (rd n 0)) by simpa [Addr.add] using hx0)
  have HX0 := Aside0.mk (show w.cell? (ad.add 0) = some (.int .i64 (rd n 0)) from hx0)
  have HX1 := Aside0.mk hx0
  have pn : (0 < n.length) = True := eq_true (by omega)
  have qn : (0 < (n.length : Int)) = True := eq_true (by omega)
  clear e1 hx0
  obtain ⟨t, B1, h⟩ := Option.bind_eq_some_iff.mp h
  have B1_ := Aside0.mk B1
  clear B1
  cases t with
  | true =>
   rw [if_pos rfl] at h
   simp only [Option.some.injEq, Prod.mk.injEq] at h
   obtain ⟨rfl, rfl, rfl, rfl⟩ := h
   go_enter Tryz.func91, Tryz.ntmps91
   go_wp2_with (first | ((with_reducible refine gate_dst (N := 5) rfl ?_); (try (refine gate_guard (by rfl) ?_; dsimp only)); refine box_event ?hg (N := 5) ?hd (cs := #[.string fr, .int .i64 p, .string bi, .slice (some ad) n.length c3, .slice A4 li.length c4]) (t := 105) ?hr ?_; (case hd => rfl); (case hg => rfl); (case hr => exact Qh0_); intro gg hggg wgg hbox hb; have n0_ := Aside0.mk (below_step Qa0_ hb); have n1_ := Aside0.mk (hbox); clear HB; have HB := n0_; have BKgg := n1_; clear n0_ n1_; clear hb hbox hggg; have hczgg0 : wgg.cell? ⟨gg, 0, none⟩ = some (.string fr) := (blk_cell BKgg.out 0).trans rfl; have hczgg1 : wgg.cell? ⟨gg, 1, none⟩ = some (.int .i64 p) := (blk_cell BKgg.out 1).trans rfl; have hczgg2 : wgg.cell? ⟨gg, 2, none⟩ = some (.string bi) := (blk_cell BKgg.out 2).trans rfl; have hczgg3 : wgg.cell? ⟨gg, 3, none⟩ = some (.slice (some ad) n.length c3) := (blk_cell BKgg.out 3).trans rfl; have hczgg4 : wgg.cell? ⟨gg, 4, none⟩ = some (.slice A4 li.length c4) := (blk_cell BKgg.out 4).trans rfl; have hcc0 : wgg.cell? ⟨b, 0, none⟩ = some (.slice A0 ns.length c0) := (blk_cell (con_below HC.out HB.out).2.1 0).trans rfl; have hcc1 : wgg.cell? ⟨b, 1, none⟩ = some (.slice A1 ls.length c1) := (blk_cell (con_below HC.out HB.out).2.1 1).trans rfl; have hxn : wgg.cell? ad = some (.int .i64 (rd n 0)) := pw_cell_below HB.out HX.out; have hxn0 : wgg.cell? (ad.add 0) = some (.int .i64 (rd n 0)) := pw_cell_below HB.out HX0.out; have hxn1 := pw_cell_below HB.out HX1.out))
   go_region_with (go_at_call 17; (with_reducible refine (impl_HasCheck.calls k (rd n 0) bi true _ B1_.out).mono ?_); rintro e w2 ⟨rfl, hb2⟩; have HB2 := Aside0.mk (below_step HB.out (below_step Qj0_ hb2)); clear hb2)
   all_goals (go_wp2; go_ret2; exact ⟨rfl, _, _, con_below HC.out HB2.out, below_step HW.out HB2.out⟩)
  | false =>
   rw [if_neg (fun h_ => Bool.false_ne_true h_)] at h
   simp only [Option.some.injEq, Prod.mk.injEq] at h
   obtain ⟨rfl, rfl, rfl, rfl⟩ := h
   go_enter Tryz.func91, Tryz.ntmps91
   go_wp2_with (first | ((with_reducible refine gate_dst (N := 5) rfl ?_); (try (refine gate_guard (by rfl) ?_; dsimp only)); refine box_event ?hg (N := 5) ?hd (cs := #[.string fr, .int .i64 p, .string bi, .slice (some ad) n.length c3, .slice A4 li.length c4]) (t := 105) ?hr ?_; (case hd => rfl); (case hg => rfl); (case hr => exact Qh0_); intro gg hggg wgg hbox hb; have n0_ := Aside0.mk (below_step Qa0_ hb); have n1_ := Aside0.mk (hbox); clear HB; have HB := n0_; have BKgg := n1_; clear n0_ n1_; clear hb hbox hggg; have hczgg0 : wgg.cell? ⟨gg, 0, none⟩ = some (.string fr) := (blk_cell BKgg.out 0).trans rfl; have hczgg1 : wgg.cell? ⟨gg, 1, none⟩ = some (.int .i64 p) := (blk_cell BKgg.out 1).trans rfl; have hczgg2 : wgg.cell? ⟨gg, 2, none⟩ = some (.string bi) := (blk_cell BKgg.out 2).trans rfl; have hczgg3 : wgg.cell? ⟨gg, 3, none⟩ = some (.slice (some ad) n.length c3) := (blk_cell BKgg.out 3).trans rfl; have hczgg4 : wgg.cell? ⟨gg, 4, none⟩ = some (.slice A4 li.length c4) := (blk_cell BKgg.out 4).trans rfl; have hcc0 : wgg.cell? ⟨b, 0, none⟩ = some (.slice A0 ns.length c0) := (blk_cell (con_below HC.out HB.out).2.1 0).trans rfl; have hcc1 : wgg.cell? ⟨b, 1, none⟩ = some (.slice A1 ls.length c1) := (blk_cell (con_below HC.out HB.out).2.1 1).trans rfl; have hxn : wgg.cell? ad = some (.int .i64 (rd n 0)) := pw_cell_below HB.out HX.out; have hxn0 : wgg.cell? (ad.add 0) = some (.int .i64 (rd n 0)) := pw_cell_below HB.out HX0.out; have hxn1 := pw_cell_below HB.out HX1.out))
   go_region_with (go_at_call 17; (with_reducible refine (impl_HasCheck.calls k (rd n 0) bi false _ B1_.out).mono ?_); rintro e w2 ⟨rfl, hb2⟩; have HB2 := Aside0.mk (below_step HB.out (below_step Qj0_ hb2)); clear hb2)
   all_goals (go_wp2; go_ret2; exact ⟨rfl, _, _, con_below HC.out HB2.out, below_step HW.out HB2.out⟩)
 rw [if_neg d5] at h
 have d5b0 : (wd.toList == ([118, 101, 114, 105, 102, 121] : List UInt8)) = false := beq_eq_false_iff_ne.mpr d5
 clear d5
 obtain ⟨⟨t, u, ok⟩, B1, h⟩ := Option.bind_eq_some_iff.mp h
 have B1_ := Aside0.mk B1
 clear B1
 cases ok with
 | false =>
  rw [if_neg (fun h_ => Bool.false_ne_true h_)] at h
  simp only [Option.some.injEq, Prod.mk.injEq] at h
  obtain ⟨rfl, rfl, rfl, rfl⟩ := h
  go_enter Tryz.func91, Tryz.ntmps91
  go_wp2_with (first | ((with_reducible refine gate_dst (N := 5) rfl ?_); (try (refine gate_guard (by rfl) ?_; dsimp only)); refine box_event ?hg (N := 5) ?hd (cs := #[.string fr, .int .i64 p, .string bi, .slice A3 n.length c3, .slice A4 li.length c4]) (t := 105) ?hr ?_; (case hd => rfl); (case hg => rfl); (case hr => exact Qh0_); intro gg hggg wgg hbox hb; have n0_ := Aside0.mk (below_step Qa0_ hb); have n1_ := Aside0.mk (hbox); clear HB; have HB := n0_; have BKgg := n1_; clear n0_ n1_; clear hb hbox hggg; have hczgg0 : wgg.cell? ⟨gg, 0, none⟩ = some (.string fr) := (blk_cell BKgg.out 0).trans rfl; have hczgg1 : wgg.cell? ⟨gg, 1, none⟩ = some (.int .i64 p) := (blk_cell BKgg.out 1).trans rfl; have hczgg2 : wgg.cell? ⟨gg, 2, none⟩ = some (.string bi) := (blk_cell BKgg.out 2).trans rfl; have hczgg3 : wgg.cell? ⟨gg, 3, none⟩ = some (.slice A3 n.length c3) := (blk_cell BKgg.out 3).trans rfl; have hczgg4 : wgg.cell? ⟨gg, 4, none⟩ = some (.slice A4 li.length c4) := (blk_cell BKgg.out 4).trans rfl; have hcc0 : wgg.cell? ⟨b, 0, none⟩ = some (.slice A0 ns.length c0) := (blk_cell (con_below HC.out HB.out).2.1 0).trans rfl; have hcc1 : wgg.cell? ⟨b, 1, none⟩ = some (.slice A1 ls.length c1) := (blk_cell (con_below HC.out HB.out).2.1 1).trans rfl) | (go_at_call 122; (with_reducible refine (impl_made.calls k wd fr p bi A3 c3 n A4 c4 li t u false _ ?q1 ?q2 ?q3 ?q4 ?q5 B1_.out).mono ?_); (case q1 => exact Kd.C_below HR3.out HB.out); (case q2 => exact HC3.out); (case q3 => exact Kd.C_below HR4.out HB.out); (case q4 => exact HC4.out); (case q5 => exact tabBelow HT.out HB.out); rintro e w2 ⟨rfl, hb2⟩; have HB2 := Aside0.mk (below_step HB.out hb2); have HB2_ := Aside0.mk (hb2.block gg (ca_blt BKgg.out)); clear hb2; have hczw : w2.cell? ⟨gg, 0, none⟩ = some (.string fr) := (blk_cell ((HB2_.out).trans BKgg.out) 0).trans rfl))
  go_ret2
  exact ⟨rfl, _, _, con_below HC.out HB2.out, below_step HW.out HB2.out⟩
 | true =>
  rw [if_pos rfl] at h
  obtain ⟨⟨r, ns2, ls2⟩, B2, h⟩ := Option.bind_eq_some_iff.mp h
  have B2_ := Aside0.mk B2
  clear B2
  simp only [Option.some.injEq, Prod.mk.injEq] at h
  obtain ⟨rfl, rfl, rfl, rfl⟩ := h
  go_enter Tryz.func91, Tryz.ntmps91
  go_wp2_with (first | ((with_reducible refine gate_dst (N := 5) rfl ?_); (try (refine gate_guard (by rfl) ?_; dsimp only)); refine box_event ?hg (N := 5) ?hd (cs := #[.string fr, .int .i64 p, .string bi, .slice A3 n.length c3, .slice A4 li.length c4]) (t := 105) ?hr ?_; (case hd => rfl); (case hg => rfl); (case hr => exact Qh0_); intro gg hggg wgg hbox hb; have n0_ := Aside0.mk (below_step Qa0_ hb); have n1_ := Aside0.mk (hbox); clear HB; have HB := n0_; have BKgg := n1_; clear n0_ n1_; clear hb hbox hggg; have hczgg0 : wgg.cell? ⟨gg, 0, none⟩ = some (.string fr) := (blk_cell BKgg.out 0).trans rfl; have hczgg1 : wgg.cell? ⟨gg, 1, none⟩ = some (.int .i64 p) := (blk_cell BKgg.out 1).trans rfl; have hczgg2 : wgg.cell? ⟨gg, 2, none⟩ = some (.string bi) := (blk_cell BKgg.out 2).trans rfl; have hczgg3 : wgg.cell? ⟨gg, 3, none⟩ = some (.slice A3 n.length c3) := (blk_cell BKgg.out 3).trans rfl; have hczgg4 : wgg.cell? ⟨gg, 4, none⟩ = some (.slice A4 li.length c4) := (blk_cell BKgg.out 4).trans rfl; have hcc0 : wgg.cell? ⟨b, 0, none⟩ = some (.slice A0 ns.length c0) := (blk_cell (con_below HC.out HB.out).2.1 0).trans rfl; have hcc1 : wgg.cell? ⟨b, 1, none⟩ = some (.slice A1 ls.length c1) := (blk_cell (con_below HC.out HB.out).2.1 1).trans rfl) | (go_at_call 122; (with_reducible refine (impl_made.calls k wd fr p bi A3 c3 n A4 c4 li t u true _ ?q1 ?q2 ?q3 ?q4 ?q5 B1_.out).mono ?_); (case q1 => exact Kd.C_below HR3.out HB.out); (case q2 => exact HC3.out); (case q3 => exact Kd.C_below HR4.out HB.out); (case q4 => exact HC4.out); (case q5 => exact tabBelow HT.out HB.out); rintro e w2 ⟨rfl, hb2⟩; have HB2 := Aside0.mk (below_step HB.out hb2); have HB2_ := Aside0.mk (hb2.block gg (ca_blt BKgg.out)); clear hb2; have hczw : w2.cell? ⟨gg, 0, none⟩ = some (.string fr) := (blk_cell ((HB2_.out).trans BKgg.out) 0).trans rfl) | (go_at_call 123; (with_reducible refine (impl_Console_put.calls k b (.slice A0 ns.length c0) (.slice A1 ls.length c1) ns ls fr t r ns2 ls2 w0 _ ?s1 ?s2 B2_.out).mono ?_); (case s1 => exact con_below HC.out HB2.out); (case s2 => exact below_step HW.out HB2.out); rintro e w3 ⟨rfl, v0', v1', hc3_, _, _, _, hb3_⟩; have HP := Aside0.mk (And.intro hc3_ hb3_); clear hc3_ hb3_))
  go_ret2
  exact ⟨rfl, _, _, HP.out.1, HP.out.2⟩
def impl_command.f (k : Nat) (l0 l1 : List ByteArray) (line : ByteArray) : Option (List ByteArray × List ByteArray × ByteArray) :=
 (strings_Split.f line (⟨#[32]⟩ : ByteArray)).bind fun ws => (if 0 < (ws.length : Int) then ((impl_kindsOf.f (rdOf ByteArray.empty ws 0)).bind fun fk => (if fk.2 = true then (if ws.length ≤ 4294967296 then (if (ws.length : Int) - 1 = (fk.1.size : Int) then ((impl_copyConsole.f l0 l1).bind fun c => ((impl_Console_read.f k c.1 c.2 fk.1 (ws.drop 1)).bind fun a => (if a.2.2.2.2.2 = true then ((impl_Console_carry.f k c.1 c.2 (rdOf ByteArray.empty ws 0) a.1 a.2.1 a.2.2.1 a.2.2.2.1 a.2.2.2.2.1).bind fun t => (if t.2.1 = true then (some (t.2.2.1, t.2.2.2, t.1)) else (some (l0, l1, (⟨#[110, 111]⟩ : ByteArray))))) else (some (l0, l1, (⟨#[110, 111]⟩ : ByteArray)))))) else (some (l0, l1, (⟨#[119, 104, 97, 116]⟩ : ByteArray)))) else none) else (some (l0, l1, (⟨#[119, 104, 97, 116]⟩ : ByteArray))))) else none)
def CmI (w w' : World) (gc ge : Nat) (v0 v1 : Value) (Aw : Option Addr) (ws : List ByteArray) : Prop :=
 Below w.heap.size w w' ∧ w.heap.size ≤ gc ∧ w.heap.size ≤ ge ∧ gc ≠ ge ∧ w'.heap[gc]? = some (.cells #[v0, v1] 39 (0, 0)) ∧ w'.heap[ge]? = some (.cells #[.slice none 0 0, .slice none 0 0] 39 (0, 0)) ∧ Kd.C Kd.string w' Aw ws.length ws
theorem CmI.below {w w1 w2 : World} {gc ge : Nat} {v0 v1 : Value} {Aw : Option Addr} {ws : List ByteArray} (h : CmI w w1 gc ge v0 v1 Aw ws) (hb : Below w1.heap.size w1 w2) : CmI w w2 gc ge v0 v1 Aw ws := by
 obtain ⟨h1, h2, h3, h4, h5, h6, h7⟩ := h
 exact ⟨below_step h1 hb, h2, h3, h4, (hb.block gc (ra_blt h5)).trans h5, (hb.block ge (ra_blt h6)).trans h6, Kd.C_below h7 hb⟩
theorem cm_out {wk w1 w2 w3 : World} {g : Nat} {v0 v1 : Value} {ns ls : List ByteArray} (h0 : Kd.R Kd.string 9 w1 wk.heap.size (fun k_ => some k_ ≠ v1.ownBlock) v0 ns) (h1 : Kd.R Kd.string 9 w1 wk.heap.size (fun k_ => some k_ ≠ v0.ownBlock) v1 ls) (hb : Below wk.heap.size wk w1) (hg : w1.heap.size ≤ g) (hb2 : Below wk.heap.size wk w2) (hb3 : Below w1.heap.size w1 w2) (s1 : w3.heap[g]? = some (.cells #[v0, v1] 39 (0, 0))) (s2 : ∀ k, k ≠ g → w3.heap[k]? = w2.heap[k]?) (s3 : ∀ B w0, Below B w0 w2 → B ≤ g → Below B w0 w3) : conAt w3 wk.heap.size g v0 v1 ns ls ∧ Below wk.heap.size wk w3 := by
 have k0 : Kd.R Kd.string 9 w1 wk.heap.size (fun _ => True) v0 ns := Kd.R_mono h0 (fun _ _ => trivial)
 have k1 : Kd.R Kd.string 9 w1 wk.heap.size (fun _ => True) v1 ls := Kd.R_mono h1 (fun _ _ => trivial)
 have hs := hb.size
 have mv : ∀ k, k < w1.heap.size → w3.heap[k]? = w1.heap[k]? := fun k hk => (s2 k (by omega)).trans (hb3.block k hk)
 exact ⟨⟨by omega, s1, str_row k0 (fun k hk => mv k (str_lt k0 k hk)), str_row k1 (fun k hk => mv k (str_lt k1 k hk)), fun k hk e => h0.1 k hk e.symm⟩, s3 _ _ hb2 (by omega)⟩
theorem cm_row {w2 w5 wz : World} {ge : Nat} {o : Obj} {v : Value} {xs : List ByteArray} (h : Kd.R Kd.string 9 w5 w2.heap.size (fun _ => True) v xs) (hge : w2.heap[ge]? = some o) (hs : ∀ k, k ≠ ge → wz.heap[k]? = w5.heap[k]?) : Kd.R Kd.string 9 wz w2.heap.size (fun _ => True) v xs :=
 str_row h (fun k hk => hs k (fun e => by have h1 := str_base h k hk; have h2 := ra_blt hge; omega))
set_option maxHeartbeats 8000000 in
set_option maxRecDepth 100000 in
theorem impl_command.calls (k : Nat) (A0 : Option Addr) (c0 : Nat) (l0 : List ByteArray) (A1 : Option Addr) (c1 : Nat) (l1 : List ByteArray) (line : ByteArray) (r0 r1 : List ByteArray) (t : ByteArray) (w : World) (hr0 : Kd.C Kd.string w A0 l0.length l0) (hc0 : l0.length ≤ c0) (hr1 : Kd.C Kd.string w A1 l1.length l1) (hc1 : l1.length ≤ c1) (hT : LibW w) (h : impl_command.f k l0 l1 line = some (r0, r1, t)) :
 Calls Tryz.prog 54 #[.agg #[.slice A0 l0.length c0, .slice A1 l1.length c1], .string line] w fun e w' => ∃ va vb : Value, e = .returned (.tuple #[.agg #[va, vb], .string t]) ∧ ((va = .slice A0 l0.length c0 ∧ vb = .slice A1 l1.length c1 ∧ r0 = l0 ∧ r1 = l1) ∨ (Kd.R Kd.string 9 w' w.heap.size (fun _ => True) va r0 ∧ Kd.R Kd.string 9 w' w.heap.size (fun _ => True) vb r1)) ∧ Below w.heap.size w w' := by
 have hu26 := Tryz.underlying39
 have hu59 := Tryz.underlying105
 have HR0 := Aside0.mk hr0
 have HC0 := Aside0.mk hc0
 have HR1 := Aside0.mk hr1
 have HC1 := Aside0.mk hc1
 have HT := Aside0.mk hT
 have HB := Aside0.mk (Below.refl w.heap.size w)
 clear hr0 hc0 hr1 hc1 hT
 unfold impl_command.f at h
 obtain ⟨ws, B1, h⟩ := Option.bind_eq_some_iff.mp h
 have B1_ := Aside0.mk B1
 clear B1
 obtain ⟨wt, hwt⟩ : ∃ y : List ByteArray, ws.drop 1 = y := ⟨_, rfl⟩
 rw [hwt] at h
 have HWT := Aside0.mk hwt
 clear hwt
 by_cases e1 : 0 < (ws.length : Int)
 rotate_left
 ·rw [if_neg e1] at h
  cases h
 rw [if_pos e1] at h
 have E1 := Aside0.mk e1
 have E1N := Aside0.mk (show 0 < ws.length by omega)
 clear e1
 obtain ⟨wd, hwd⟩ : ∃ y : ByteArray, rdOf ByteArray.empty ws 0 = y := ⟨_, rfl⟩
 rw [hwd] at h
 have HWD := Aside0.mk hwd
 clear hwd
 obtain ⟨⟨fo, kn⟩, B2, h⟩ := Option.bind_eq_some_iff.mp h
 have B2_ := Aside0.mk B2
 clear B2
 cases kn with
 | false =>
  rw [if_neg (fun h_ => Bool.false_ne_true h_)] at h
  simp only [Option.some.injEq, Prod.mk.injEq] at h
  obtain ⟨rfl, rfl, rfl⟩ := h
  go_enter Tryz.func54, Tryz.ntmps54
  go_wp2_with (first | ((with_reducible refine gate_dst (N := 2) rfl ?_); (try (refine gate_guard (by rfl) ?_; dsimp only)); refine box_event ?hg (N := 2) ?hd (cs := #[.slice A0 l0.length c0, .slice A1 l1.length c1]) (t := 39) ?hr ?_; (case hd => rfl); (case hg => rfl); (case hr => exact Qh0_); intro gc hggc wgc hbox hb; have n0_ := Aside0.mk (below_step Qa0_ hb); have HGC := Aside0.mk (show w.heap.size ≤ gc by omega); have n1_ := Aside0.mk (hbox); clear HB; have HB := n0_; have BKgc := n1_; clear n0_ n1_; clear hb hbox hggc) | ((with_reducible refine gate_dst (N := 4) rfl ?_); (try (refine gate_guard (by rfl) ?_; dsimp only)); refine box_event ?hg (N := 4) ?hd (cs := #[.slice none 0 0, .slice none 0 0]) (t := 39) ?hr ?_; (case hd => rfl); (case hg => rfl); (case hr => exact Qh0_); intro ge hgge wge hbox hb; have n0_ := Aside0.mk (below_step Qa0_ hb); have BKC2 := Aside0.mk ((hb.block gc (ra_blt BKgc.out)).trans BKgc.out); have HNE := Aside0.mk (show gc ≠ ge from fun e_ => by have := ra_blt BKgc.out; omega); have HGE := Aside0.mk (show w.heap.size ≤ ge by have := HB.out.size; omega); have n1_ := Aside0.mk (hbox); clear HB; have HB := n0_; have BKge := n1_; clear n0_ n1_; clear hb hbox hgge) | (go_at_call 53; (with_reducible refine (strings_Split.calls line (⟨#[32]⟩ : ByteArray) ws _ B1_.out).mono ?_); rintro e w1 ⟨vw, rfl, hr, hb⟩; obtain ⟨Aw, cw, ew, hlw, hCw⟩ := Kd.R_reads hr; subst ew; have HLW := Aside0.mk hlw; have HI := Aside0.mk (show CmI w w1 gc ge (.slice A0 l0.length c0) (.slice A1 l1.length c1) Aw ws from ⟨below_step HB.out hb, HGC.out, HGE.out, HNE.out, (hb.block gc (ra_blt BKC2.out)).trans BKC2.out, (hb.block ge (ra_blt BKge.out)).trans BKge.out, hCw⟩); clear HB HGC HGE HNE BKgc BKC2 BKge hr hb hlw hCw; obtain ⟨adw, edw, hxw⟩ := Kd.at_string HI.out.2.2.2.2.2.2 0 (by decide) E1.out; cases edw; rw [HWD.out] at hxw; have hxw0 : w1.cell? (adw.add 0) = some (.string wd) := hxw; have pws := E1N.out; have qws := E1.out; have hxw1 := hxw; simp [Addr.add] at hxw1; obtain ⟨iS, hiS, _, hzS, _⟩ := info_parts info9; obtain ⟨Aq, hcut0, hcq, hcc⟩ := print_drop_of (P := Tryz.prog) Value.string (⟨#[]⟩ : ByteArray) 23 9 .i64 Tryz.underlying23 hiS hzS (some adw) cw ws 1 (by decide) (by have := E1.out; omega) HLW.out; rw [show (1 : Int).toNat = 1 from rfl, HWT.out] at hcut0 hcq hcc; have HQ := Aside0.mk (And.intro (fun (wx : World) (hx : Kd.C Kd.string wx (some adw) ws.length ws) => (Kd.C_of_reads (h1 := fun _ => rfl) (hcq wx (Kd.reads_of_C hx)) : Kd.C Kd.string wx Aq wt.length wt)) hcc); clear hcq hcc hiS hzS) | (go_at_call 89; (with_reducible refine (impl_kindsOf.calls wd fo false _ B2_.out).mono ?_); rintro e w2 ⟨rfl, hb⟩; have HI2 := Aside0.mk (HI.out.below hb); clear hb hxw hxw0 hxw1; have hcc0 : w2.cell? ⟨gc, 0, none⟩ = some (.slice A0 l0.length c0) := (blk_cell HI2.out.2.2.2.2.1 0).trans rfl; have hcc1 : w2.cell? ⟨gc, 1, none⟩ = some (.slice A1 l1.length c1) := (blk_cell HI2.out.2.2.2.2.1 1).trans rfl) | ((with_reducible refine gate_store (t := 39) (p := 4) rfl ?_); refine ra_store ?a1 ?a2 39 (.tmp 4) (.tmp 33) ?a3 ge #[.slice A0 l0.length c0, .slice A1 l1.length c1] ?a4 ?a5 39 #[.slice none 0 0, .slice none 0 0] HI2.out.2.2.2.2.2.1 ?a6 ?a7 ?a8 ?_; (case a1 => rfl); (case a2 => rfl); (case a3 => rfl); (case a4 => rfl); (case a5 => rfl); (case a6 => rfl); (case a7 => rfl); (case a8 => exact Qo0_); intro wz hs1 hs2 hs3; have HS1 := Aside0.mk hs1; have HS3 := Aside0.mk (hs3 _ _ HI2.out.1 HI2.out.2.2.1); clear hs1 hs2 hs3))
  refine bodyPost_ret (ra_results rfl _ _ ge 39 #[.slice A0 l0.length c0, .slice A1 l1.length c1] (0, 0) _ _ rfl HS1.out Tryz.underlying39 rfl Qi0_ rfl) rfl ?_; exact ⟨.slice A0 l0.length c0, .slice A1 l1.length c1, rfl, .inl (by first | exact ⟨rfl, rfl, rfl, rfl⟩ | (simp; done)), HS3.out⟩
 | true =>
  rw [if_pos rfl] at h
  by_cases e2 : ws.length ≤ 4294967296
  rotate_left
  ·rw [if_neg e2] at h
   cases h
  rw [if_pos e2] at h
  have E2 := Aside0.mk e2
  obtain ⟨z, hz⟩ : ∃ y : Int, (ws.length : Int) - 1 = y := ⟨_, rfl⟩
  have hzw : IntKind.i64.wrap ((ws.length : Int) - 1) = z := by rw [hz]; exact IntWalk.i64_in _ (by omega)
  rw [hz] at h
  have HZ := Aside0.mk hz
  clear hz e2
  by_cases e3 : z = (fo.size : Int)
  rotate_left
  ·rw [if_neg e3] at h
   have e3b0 : (z == (fo.size : Int)) = false := beq_eq_false_iff_ne.mpr e3
   have e3b1 : (z != (fo.size : Int)) = true := bne_iff_ne.mpr e3
   simp only [Option.some.injEq, Prod.mk.injEq] at h
   obtain ⟨rfl, rfl, rfl⟩ := h
   clear e3
   go_enter Tryz.func54, Tryz.ntmps54
   go_wp2_with (first | ((with_reducible refine gate_dst (N := 2) rfl ?_); (try (refine gate_guard (by rfl) ?_; dsimp only)); refine box_event ?hg (N := 2) ?hd (cs := #[.slice A0 l0.length c0, .slice A1 l1.length c1]) (t := 39) ?hr ?_; (case hd => rfl); (case hg => rfl); (case hr => exact Qh0_); intro gc hggc wgc hbox hb; have n0_ := Aside0.mk (below_step Qa0_ hb); have HGC := Aside0.mk (show w.heap.size ≤ gc by omega); have n1_ := Aside0.mk (hbox); clear HB; have HB := n0_; have BKgc := n1_; clear n0_ n1_; clear hb hbox hggc) | ((with_reducible refine gate_dst (N := 4) rfl ?_); (try (refine gate_guard (by rfl) ?_; dsimp only)); refine box_event ?hg (N := 4) ?hd (cs := #[.slice none 0 0, .slice none 0 0]) (t := 39) ?hr ?_; (case hd => rfl); (case hg => rfl); (case hr => exact Qh0_); intro ge hgge wge hbox hb; have n0_ := Aside0.mk (below_step Qa0_ hb); have BKC2 := Aside0.mk ((hb.block gc (ra_blt BKgc.out)).trans BKgc.out); have HNE := Aside0.mk (show gc ≠ ge from fun e_ => by have := ra_blt BKgc.out; omega); have HGE := Aside0.mk (show w.heap.size ≤ ge by have := HB.out.size; omega); have n1_ := Aside0.mk (hbox); clear HB; have HB := n0_; have BKge := n1_; clear n0_ n1_; clear hb hbox hgge) | (go_at_call 53; (with_reducible refine (strings_Split.calls line (⟨#[32]⟩ : ByteArray) ws _ B1_.out).mono ?_); rintro e w1 ⟨vw, rfl, hr, hb⟩; obtain ⟨Aw, cw, ew, hlw, hCw⟩ := Kd.R_reads hr; subst ew; have HLW := Aside0.mk hlw; have HI := Aside0.mk (show CmI w w1 gc ge (.slice A0 l0.length c0) (.slice A1 l1.length c1) Aw ws from ⟨below_step HB.out hb, HGC.out, HGE.out, HNE.out, (hb.block gc (ra_blt BKC2.out)).trans BKC2.out, (hb.block ge (ra_blt BKge.out)).trans BKge.out, hCw⟩); clear HB HGC HGE HNE BKgc BKC2 BKge hr hb hlw hCw; obtain ⟨adw, edw, hxw⟩ := Kd.at_string HI.out.2.2.2.2.2.2 0 (by decide) E1.out; cases edw; rw [HWD.out] at hxw; have hxw0 : w1.cell? (adw.add 0) = some (.string wd) := hxw; have pws := E1N.out; have qws := E1.out; have hxw1 := hxw; simp [Addr.add] at hxw1; obtain ⟨iS, hiS, _, hzS, _⟩ := info_parts info9; obtain ⟨Aq, hcut0, hcq, hcc⟩ := print_drop_of (P := Tryz.prog) Value.string (⟨#[]⟩ : ByteArray) 23 9 .i64 Tryz.underlying23 hiS hzS (some adw) cw ws 1 (by decide) (by have := E1.out; omega) HLW.out; rw [show (1 : Int).toNat = 1 from rfl, HWT.out] at hcut0 hcq hcc; have HQ := Aside0.mk (And.intro (fun (wx : World) (hx : Kd.C Kd.string wx (some adw) ws.length ws) => (Kd.C_of_reads (h1 := fun _ => rfl) (hcq wx (Kd.reads_of_C hx)) : Kd.C Kd.string wx Aq wt.length wt)) hcc); clear hcq hcc hiS hzS) | (go_at_call 89; (with_reducible refine (impl_kindsOf.calls wd fo true _ B2_.out).mono ?_); rintro e w2 ⟨rfl, hb⟩; have HI2 := Aside0.mk (HI.out.below hb); clear hb hxw hxw0 hxw1; have hcc0 : w2.cell? ⟨gc, 0, none⟩ = some (.slice A0 l0.length c0) := (blk_cell HI2.out.2.2.2.2.1 0).trans rfl; have hcc1 : w2.cell? ⟨gc, 1, none⟩ = some (.slice A1 l1.length c1) := (blk_cell HI2.out.2.2.2.2.1 1).trans rfl) | ((with_reducible refine gate_store (t := 39) (p := 4) rfl ?_); refine ra_store ?a1 ?a2 39 (.tmp 4) (.tmp 33) ?a3 ge #[.slice A0 l0.length c0, .slice A1 l1.length c1] ?a4 ?a5 39 #[.slice none 0 0, .slice none 0 0] HI2.out.2.2.2.2.2.1 ?a6 ?a7 ?a8 ?_; (case a1 => rfl); (case a2 => rfl); (case a3 => rfl); (case a4 => rfl); (case a5 => rfl); (case a6 => rfl); (case a7 => rfl); (case a8 => exact Qo0_); intro wz hs1 hs2 hs3; have HS1 := Aside0.mk hs1; have HS3 := Aside0.mk (hs3 _ _ HI2.out.1 HI2.out.2.2.1); clear hs1 hs2 hs3))
   refine bodyPost_ret (ra_results rfl _ _ ge 39 #[.slice A0 l0.length c0, .slice A1 l1.length c1] (0, 0) _ _ rfl HS1.out Tryz.underlying39 rfl Qi0_ rfl) rfl ?_; exact ⟨.slice A0 l0.length c0, .slice A1 l1.length c1, rfl, .inl (by first | exact ⟨rfl, rfl, rfl, rfl⟩ | (simp; done)), HS3.out⟩
  rw [if_pos e3] at h
  have e3b0 : (z == (fo.size : Int)) = true := beq_iff_eq.mpr e3
  have e3b1 : (z != (fo.size : Int)) = false := bne_eq_false_iff_eq.mpr e3
  clear e3
  obtain ⟨⟨n0, n1⟩, B3, h⟩ := Option.bind_eq_some_iff.mp h
  have B3_ := Aside0.mk B3
  clear B3
  obtain ⟨⟨fr, p, bi, n, li, ok⟩, B4, h⟩ := Option.bind_eq_some_iff.mp h
  have B4_ := Aside0.mk B4
  clear B4
  cases ok with
  | false =>
   rw [if_neg (fun h_ => Bool.false_ne_true h_)] at h
   simp only [Option.some.injEq, Prod.mk.injEq] at h
   obtain ⟨rfl, rfl, rfl⟩ := h
   go_enter Tryz.func54, Tryz.ntmps54
   go_wp2_with (first | ((with_reducible refine gate_dst (N := 2) rfl ?_); (try (refine gate_guard (by rfl) ?_; dsimp only)); refine box_event ?hg (N := 2) ?hd (cs := #[.slice A0 l0.length c0, .slice A1 l1.length c1]) (t := 39) ?hr ?_; (case hd => rfl); (case hg => rfl); (case hr => exact Qh0_); intro gc hggc wgc hbox hb; have n0_ := Aside0.mk (below_step Qa0_ hb); have HGC := Aside0.mk (show w.heap.size ≤ gc by omega); have n1_ := Aside0.mk (hbox); clear HB; have HB := n0_; have BKgc := n1_; clear n0_ n1_; clear hb hbox hggc) | ((with_reducible refine gate_dst (N := 4) rfl ?_); (try (refine gate_guard (by rfl) ?_; dsimp only)); refine box_event ?hg (N := 4) ?hd (cs := #[.slice none 0 0, .slice none 0 0]) (t := 39) ?hr ?_; (case hd => rfl); (case hg => rfl); (case hr => exact Qh0_); intro ge hgge wge hbox hb; have n0_ := Aside0.mk (below_step Qa0_ hb); have BKC2 := Aside0.mk ((hb.block gc (ra_blt BKgc.out)).trans BKgc.out); have HNE := Aside0.mk (show gc ≠ ge from fun e_ => by have := ra_blt BKgc.out; omega); have HGE := Aside0.mk (show w.heap.size ≤ ge by have := HB.out.size; omega); have n1_ := Aside0.mk (hbox); clear HB; have HB := n0_; have BKge := n1_; clear n0_ n1_; clear hb hbox hgge) | (go_at_call 53; (with_reducible refine (strings_Split.calls line (⟨#[32]⟩ : ByteArray) ws _ B1_.out).mono ?_); rintro e w1 ⟨vw, rfl, hr, hb⟩; obtain ⟨Aw, cw, ew, hlw, hCw⟩ := Kd.R_reads hr; subst ew; have HLW := Aside0.mk hlw; have HI := Aside0.mk (show CmI w w1 gc ge (.slice A0 l0.length c0) (.slice A1 l1.length c1) Aw ws from ⟨below_step HB.out hb, HGC.out, HGE.out, HNE.out, (hb.block gc (ra_blt BKC2.out)).trans BKC2.out, (hb.block ge (ra_blt BKge.out)).trans BKge.out, hCw⟩); clear HB HGC HGE HNE BKgc BKC2 BKge hr hb hlw hCw; obtain ⟨adw, edw, hxw⟩ := Kd.at_string HI.out.2.2.2.2.2.2 0 (by decide) E1.out; cases edw; rw [HWD.out] at hxw; have hxw0 : w1.cell? (adw.add 0) = some (.string wd) := hxw; have pws := E1N.out; have qws := E1.out; have hxw1 := hxw; simp [Addr.add] at hxw1; obtain ⟨iS, hiS, _, hzS, _⟩ := info_parts info9; obtain ⟨Aq, hcut0, hcq, hcc⟩ := print_drop_of (P := Tryz.prog) Value.string (⟨#[]⟩ : ByteArray) 23 9 .i64 Tryz.underlying23 hiS hzS (some adw) cw ws 1 (by decide) (by have := E1.out; omega) HLW.out; rw [show (1 : Int).toNat = 1 from rfl, HWT.out] at hcut0 hcq hcc; have HQ := Aside0.mk (And.intro (fun (wx : World) (hx : Kd.C Kd.string wx (some adw) ws.length ws) => (Kd.C_of_reads (h1 := fun _ => rfl) (hcq wx (Kd.reads_of_C hx)) : Kd.C Kd.string wx Aq wt.length wt)) hcc); clear hcq hcc hiS hzS) | (go_at_call 89; (with_reducible refine (impl_kindsOf.calls wd fo true _ B2_.out).mono ?_); rintro e w2 ⟨rfl, hb⟩; have HI2 := Aside0.mk (HI.out.below hb); clear hb hxw hxw0 hxw1; have hcc0 : w2.cell? ⟨gc, 0, none⟩ = some (.slice A0 l0.length c0) := (blk_cell HI2.out.2.2.2.2.1 0).trans rfl; have hcc1 : w2.cell? ⟨gc, 1, none⟩ = some (.slice A1 l1.length c1) := (blk_cell HI2.out.2.2.2.2.1 1).trans rfl) | (go_at_call 56; (with_reducible refine (impl_copyConsole.calls A0 c0 l0 A1 c1 l1 n0 n1 _ ?s1 ?s2 ?s3 ?s4 B3_.out).mono ?_); (case s1 => exact Kd.C_below HR0.out HI2.out.1); (case s2 => exact HC0.out); (case s3 => exact Kd.C_below HR1.out HI2.out.1); (case s4 => exact HC1.out); rintro e w3 ⟨v0, v1, rfl, hr0, hr1, hb⟩; obtain ⟨Ac, cc, ec⟩ := Kd.R_slice hr0; subst ec; obtain ⟨Ad, cd, ed⟩ := Kd.R_slice hr1; subst ed; have HK0 := Aside0.mk hr0; have HK1 := Aside0.mk hr1; have HK2 := Aside0.mk hb; have HB := Aside0.mk hb; clear hr0 hr1 hb) | ((with_reducible refine gate_dst (N := 9) rfl ?_); (try (refine gate_guard (by rfl) ?_; dsimp only)); refine box_event ?hg (N := 9) ?hd (cs := #[.slice none 0 0, .slice none 0 0]) (t := 39) ?hr ?_; (case hd => rfl); (case hg => rfl); (case hr => exact Qh0_); intro g9 hgg9 w9 hbox hb; have n0_ := Aside0.mk (below_step Qa0_ hb); have HG9 := Aside0.mk hgg9; have HB9 := Aside0.mk hb; have n1_ := Aside0.mk (hbox); clear HB; have HB := n0_; have BKg9 := n1_; clear n0_ n1_; clear hb hbox hgg9) | ((with_reducible refine gate_store (t := 39) (p := 9) rfl ?_); refine ra_store ?b1 ?b2 39 (.tmp 9) (.tmp 35) ?b3 g9 #[.slice Ac n0.length cc, .slice Ad n1.length cd] ?b4 ?b5 39 #[.slice none 0 0, .slice none 0 0] BKg9.out ?b6 ?b7 ?b8 ?_; (case b1 => rfl); (case b2 => rfl); (case b3 => rfl); (case b4 => rfl); (case b5 => rfl); (case b6 => rfl); (case b7 => rfl); (case b8 => exact Qo0_); intro wS hs1 hs2 hs3; have HC9 := Aside0.mk (cm_out HK0.out HK1.out HK2.out (Nat.le_of_eq HG9.out.symm) HB.out HB9.out hs1 hs2 hs3); clear hs1 hs2 hs3) | (go_at_call 90; (with_reducible refine (impl_Console_read.calls k w2.heap.size g9 (.slice Ac n0.length cc) (.slice Ad n1.length cd) n0 n1 fo Aq (cw - 1) wt fr p bi n li false _ ?r1 ?r2 ?r3 ?r4 B4_.out).mono ?_); (case r1 => exact HC9.out.1); (case r2 => exact HQ.out.1 _ (HI2.out.below HC9.out.2).2.2.2.2.2.2); (case r3 => exact HQ.out.2); (case r4 => exact tabBelow HT.out ((HI2.out.below HC9.out.2).1)); rintro e w4 ⟨vn, vl, rfl, hr3, hr4, hb⟩; obtain ⟨A3, c3, e3_⟩ := Kd.R_slice hr3; subst e3_; obtain ⟨A4, c4, e4_⟩ := Kd.R_slice hr4; subst e4_; have HR3 := Aside0.mk hr3; have HR4 := Aside0.mk hr4; have HB4 := Aside0.mk hb; clear hr3 hr4 hb) | ((with_reducible refine gate_dst (N := 10) rfl ?_); (try (refine gate_guard (by rfl) ?_; dsimp only)); refine box_event ?hg (N := 10) ?hd (cs := #[.string (⟨#[]⟩ : ByteArray), .int .i64 0, .string (⟨#[]⟩ : ByteArray), .slice none 0 0, .slice none 0 0]) (t := 105) ?hr ?_; (case hd => rfl); (case hg => rfl); (case hr => exact Qh0_); intro g10 hgg10 w10 hbox hb; have n0_ := Aside0.mk (below_step Qq1_ hb); have HG10 := Aside0.mk hgg10; have HG11 := Aside0.mk (show wS.heap.size ≤ g10 from Nat.le_trans HB4.out.size (Nat.le_of_eq hgg10.symm)); have HB10 := Aside0.mk hb; have n1_ := Aside0.mk (hbox); clear HB4; have HB4 := n0_; have BKg10 := n1_; clear n0_ n1_; clear hb hbox hgg10) | ((with_reducible refine gate_store (t := 105) (p := 10) rfl ?_); refine ra_store ?d1 ?d2 105 (.tmp 10) (.tmp 41) ?d3 g10 #[.string fr, .int .i64 p, .string bi, .slice A3 n.length c3, .slice A4 li.length c4] ?d4 ?d5 105 #[.string (⟨#[]⟩ : ByteArray), .int .i64 0, .string (⟨#[]⟩ : ByteArray), .slice none 0 0, .slice none 0 0] BKg10.out ?d6 ?d7 ?d8 ?_; (case d1 => rfl); (case d2 => rfl); (case d3 => rfl); (case d4 => rfl); (case d5 => rfl); (case d6 => rfl); (case d7 => rfl); (case d8 => exact Qo0_); intro wT hs1 hs2 hs3; have HST := Aside0.mk (hs3 _ _ HB4.out HG11.out); have HC10 := Aside0.mk (con_below HC9.out.1 HST.out); have HBK := Aside0.mk (below_step HC9.out.2 HST.out); have HI10 := Aside0.mk (HI2.out.below HBK.out); have HQ3 := Aside0.mk (Kd.C_below (Kd.R_reads' HR3.out).2.2 (hs3 _ _ HB10.out (Nat.le_of_eq HG10.out.symm))); have HQ4 := Aside0.mk (Kd.C_below (Kd.R_reads' HR4.out).2.2 (hs3 _ _ HB10.out (Nat.le_of_eq HG10.out.symm))); have HBA := Aside0.mk hs1; have hcc0 : wT.cell? ⟨gc, 0, none⟩ = some (.slice A0 l0.length c0) := (blk_cell HI10.out.2.2.2.2.1 0).trans rfl; have hcc1 : wT.cell? ⟨gc, 1, none⟩ = some (.slice A1 l1.length c1) := (blk_cell HI10.out.2.2.2.2.1 1).trans rfl; clear hs1 hs2 hs3) | ((with_reducible refine gate_store (t := 39) (p := 4) rfl ?_); refine ra_store ?a1 ?a2 39 (.tmp 4) (.tmp 45) ?a3 ge #[.slice A0 l0.length c0, .slice A1 l1.length c1] ?a4 ?a5 39 #[.slice none 0 0, .slice none 0 0] HI10.out.2.2.2.2.2.1 ?a6 ?a7 ?a8 ?_; (case a1 => rfl); (case a2 => rfl); (case a3 => rfl); (case a4 => rfl); (case a5 => rfl); (case a6 => rfl); (case a7 => rfl); (case a8 => exact Qo0_); intro wz hs1 hs2 hs3; have HS1 := Aside0.mk hs1; have HS3 := Aside0.mk (hs3 _ _ HI10.out.1 HI10.out.2.2.1); clear hs1 hs2 hs3))
   refine bodyPost_ret (ra_results rfl _ _ ge 39 #[.slice A0 l0.length c0, .slice A1 l1.length c1] (0, 0) _ _ rfl HS1.out Tryz.underlying39 rfl Qi0_ rfl) rfl ?_; exact ⟨.slice A0 l0.length c0, .slice A1 l1.length c1, rfl, .inl (by first | exact ⟨rfl, rfl, rfl, rfl⟩ | (simp; done)), HS3.out⟩
  | true =>
   rw [if_pos rfl] at h
   obtain ⟨⟨tx, fine, m0, m1⟩, B5, h⟩ := Option.bind_eq_some_iff.mp h
   have B5_ := Aside0.mk B5
   clear B5
   cases fine with
   | false =>
    rw [if_neg (fun h_ => Bool.false_ne_true h_)] at h
    simp only [Option.some.injEq, Prod.mk.injEq] at h
    obtain ⟨rfl, rfl, rfl⟩ := h
    go_enter Tryz.func54, Tryz.ntmps54
    go_wp2_with (first | ((with_reducible refine gate_dst (N := 2) rfl ?_); (try (refine gate_guard (by rfl) ?_; dsimp only)); refine box_event ?hg (N := 2) ?hd (cs := #[.slice A0 l0.length c0, .slice A1 l1.length c1]) (t := 39) ?hr ?_; (case hd => rfl); (case hg => rfl); (case hr => exact Qh0_); intro gc hggc wgc hbox hb; have n0_ := Aside0.mk (below_step Qa0_ hb); have HGC := Aside0.mk (show w.heap.size ≤ gc by omega); have n1_ := Aside0.mk (hbox); clear HB; have HB := n0_; have BKgc := n1_; clear n0_ n1_; clear hb hbox hggc) | ((with_reducible refine gate_dst (N := 4) rfl ?_); (try (refine gate_guard (by rfl) ?_; dsimp only)); refine box_event ?hg (N := 4) ?hd (cs := #[.slice none 0 0, .slice none 0 0]) (t := 39) ?hr ?_; (case hd => rfl); (case hg => rfl); (case hr => exact Qh0_); intro ge hgge wge hbox hb; have n0_ := Aside0.mk (below_step Qa0_ hb); have BKC2 := Aside0.mk ((hb.block gc (ra_blt BKgc.out)).trans BKgc.out); have HNE := Aside0.mk (show gc ≠ ge from fun e_ => by have := ra_blt BKgc.out; omega); have HGE := Aside0.mk (show w.heap.size ≤ ge by have := HB.out.size; omega); have n1_ := Aside0.mk (hbox); clear HB; have HB := n0_; have BKge := n1_; clear n0_ n1_; clear hb hbox hgge) | (go_at_call 53; (with_reducible refine (strings_Split.calls line (⟨#[32]⟩ : ByteArray) ws _ B1_.out).mono ?_); rintro e w1 ⟨vw, rfl, hr, hb⟩; obtain ⟨Aw, cw, ew, hlw, hCw⟩ := Kd.R_reads hr; subst ew; have HLW := Aside0.mk hlw; have HI := Aside0.mk (show CmI w w1 gc ge (.slice A0 l0.length c0) (.slice A1 l1.length c1) Aw ws from ⟨below_step HB.out hb, HGC.out, HGE.out, HNE.out, (hb.block gc (ra_blt BKC2.out)).trans BKC2.out, (hb.block ge (ra_blt BKge.out)).trans BKge.out, hCw⟩); clear HB HGC HGE HNE BKgc BKC2 BKge hr hb hlw hCw; obtain ⟨adw, edw, hxw⟩ := Kd.at_string HI.out.2.2.2.2.2.2 0 (by decide) E1.out; cases edw; rw [HWD.out] at hxw; have hxw0 : w1.cell? (adw.add 0) = some (.string wd) := hxw; have pws := E1N.out; have qws := E1.out; have hxw1 := hxw; simp [Addr.add] at hxw1; obtain ⟨iS, hiS, _, hzS, _⟩ := info_parts info9; obtain ⟨Aq, hcut0, hcq, hcc⟩ := print_drop_of (P := Tryz.prog) Value.string (⟨#[]⟩ : ByteArray) 23 9 .i64 Tryz.underlying23 hiS hzS (some adw) cw ws 1 (by decide) (by have := E1.out; omega) HLW.out; rw [show (1 : Int).toNat = 1 from rfl, HWT.out] at hcut0 hcq hcc; have HQ := Aside0.mk (And.intro (fun (wx : World) (hx : Kd.C Kd.string wx (some adw) ws.length ws) => (Kd.C_of_reads (h1 := fun _ => rfl) (hcq wx (Kd.reads_of_C hx)) : Kd.C Kd.string wx Aq wt.length wt)) hcc); clear hcq hcc hiS hzS) | (go_at_call 89; (with_reducible refine (impl_kindsOf.calls wd fo true _ B2_.out).mono ?_); rintro e w2 ⟨rfl, hb⟩; have HI2 := Aside0.mk (HI.out.below hb); clear hb hxw hxw0 hxw1; have hcc0 : w2.cell? ⟨gc, 0, none⟩ = some (.slice A0 l0.length c0) := (blk_cell HI2.out.2.2.2.2.1 0).trans rfl; have hcc1 : w2.cell? ⟨gc, 1, none⟩ = some (.slice A1 l1.length c1) := (blk_cell HI2.out.2.2.2.2.1 1).trans rfl) | (go_at_call 56; (with_reducible refine (impl_copyConsole.calls A0 c0 l0 A1 c1 l1 n0 n1 _ ?s1 ?s2 ?s3 ?s4 B3_.out).mono ?_); (case s1 => exact Kd.C_below HR0.out HI2.out.1); (case s2 => exact HC0.out); (case s3 => exact Kd.C_below HR1.out HI2.out.1); (case s4 => exact HC1.out); rintro e w3 ⟨v0, v1, rfl, hr0, hr1, hb⟩; obtain ⟨Ac, cc, ec⟩ := Kd.R_slice hr0; subst ec; obtain ⟨Ad, cd, ed⟩ := Kd.R_slice hr1; subst ed; have HK0 := Aside0.mk hr0; have HK1 := Aside0.mk hr1; have HK2 := Aside0.mk hb; have HB := Aside0.mk hb; clear hr0 hr1 hb) | ((with_reducible refine gate_dst (N := 9) rfl ?_); (try (refine gate_guard (by rfl) ?_; dsimp only)); refine box_event ?hg (N := 9) ?hd (cs := #[.slice none 0 0, .slice none 0 0]) (t := 39) ?hr ?_; (case hd => rfl); (case hg => rfl); (case hr => exact Qh0_); intro g9 hgg9 w9 hbox hb; have n0_ := Aside0.mk (below_step Qa0_ hb); have HG9 := Aside0.mk hgg9; have HB9 := Aside0.mk hb; have n1_ := Aside0.mk (hbox); clear HB; have HB := n0_; have BKg9 := n1_; clear n0_ n1_; clear hb hbox hgg9) | ((with_reducible refine gate_store (t := 39) (p := 9) rfl ?_); refine ra_store ?b1 ?b2 39 (.tmp 9) (.tmp 35) ?b3 g9 #[.slice Ac n0.length cc, .slice Ad n1.length cd] ?b4 ?b5 39 #[.slice none 0 0, .slice none 0 0] BKg9.out ?b6 ?b7 ?b8 ?_; (case b1 => rfl); (case b2 => rfl); (case b3 => rfl); (case b4 => rfl); (case b5 => rfl); (case b6 => rfl); (case b7 => rfl); (case b8 => exact Qo0_); intro wS hs1 hs2 hs3; have HC9 := Aside0.mk (cm_out HK0.out HK1.out HK2.out (Nat.le_of_eq HG9.out.symm) HB.out HB9.out hs1 hs2 hs3); clear hs1 hs2 hs3) | (go_at_call 90; (with_reducible refine (impl_Console_read.calls k w2.heap.size g9 (.slice Ac n0.length cc) (.slice Ad n1.length cd) n0 n1 fo Aq (cw - 1) wt fr p bi n li true _ ?r1 ?r2 ?r3 ?r4 B4_.out).mono ?_); (case r1 => exact HC9.out.1); (case r2 => exact HQ.out.1 _ (HI2.out.below HC9.out.2).2.2.2.2.2.2); (case r3 => exact HQ.out.2); (case r4 => exact tabBelow HT.out ((HI2.out.below HC9.out.2).1)); rintro e w4 ⟨vn, vl, rfl, hr3, hr4, hb⟩; obtain ⟨A3, c3, e3_⟩ := Kd.R_slice hr3; subst e3_; obtain ⟨A4, c4, e4_⟩ := Kd.R_slice hr4; subst e4_; have HR3 := Aside0.mk hr3; have HR4 := Aside0.mk hr4; have HB4 := Aside0.mk hb; clear hr3 hr4 hb) | ((with_reducible refine gate_dst (N := 10) rfl ?_); (try (refine gate_guard (by rfl) ?_; dsimp only)); refine box_event ?hg (N := 10) ?hd (cs := #[.string (⟨#[]⟩ : ByteArray), .int .i64 0, .string (⟨#[]⟩ : ByteArray), .slice none 0 0, .slice none 0 0]) (t := 105) ?hr ?_; (case hd => rfl); (case hg => rfl); (case hr => exact Qh0_); intro g10 hgg10 w10 hbox hb; have n0_ := Aside0.mk (below_step Qq1_ hb); have HG10 := Aside0.mk hgg10; have HG11 := Aside0.mk (show wS.heap.size ≤ g10 from Nat.le_trans HB4.out.size (Nat.le_of_eq hgg10.symm)); have HB10 := Aside0.mk hb; have n1_ := Aside0.mk (hbox); clear HB4; have HB4 := n0_; have BKg10 := n1_; clear n0_ n1_; clear hb hbox hgg10) | ((with_reducible refine gate_store (t := 105) (p := 10) rfl ?_); refine ra_store ?d1 ?d2 105 (.tmp 10) (.tmp 41) ?d3 g10 #[.string fr, .int .i64 p, .string bi, .slice A3 n.length c3, .slice A4 li.length c4] ?d4 ?d5 105 #[.string (⟨#[]⟩ : ByteArray), .int .i64 0, .string (⟨#[]⟩ : ByteArray), .slice none 0 0, .slice none 0 0] BKg10.out ?d6 ?d7 ?d8 ?_; (case d1 => rfl); (case d2 => rfl); (case d3 => rfl); (case d4 => rfl); (case d5 => rfl); (case d6 => rfl); (case d7 => rfl); (case d8 => exact Qo0_); intro wT hs1 hs2 hs3; have HST := Aside0.mk (hs3 _ _ HB4.out HG11.out); have HC10 := Aside0.mk (con_below HC9.out.1 HST.out); have HBK := Aside0.mk (below_step HC9.out.2 HST.out); have HI10 := Aside0.mk (HI2.out.below HBK.out); have HQ3 := Aside0.mk (Kd.C_below (Kd.R_reads' HR3.out).2.2 (hs3 _ _ HB10.out (Nat.le_of_eq HG10.out.symm))); have HQ4 := Aside0.mk (Kd.C_below (Kd.R_reads' HR4.out).2.2 (hs3 _ _ HB10.out (Nat.le_of_eq HG10.out.symm))); have HBA := Aside0.mk hs1; have hcc0 : wT.cell? ⟨gc, 0, none⟩ = some (.slice A0 l0.length c0) := (blk_cell HI10.out.2.2.2.2.1 0).trans rfl; have hcc1 : wT.cell? ⟨gc, 1, none⟩ = some (.slice A1 l1.length c1) := (blk_cell HI10.out.2.2.2.2.1 1).trans rfl; clear hs1 hs2 hs3; obtain ⟨ad2, ed2, hy2⟩ := Kd.at_string HI10.out.2.2.2.2.2.2 0 (by decide) E1.out; rw [← Option.some.inj ed2, HWD.out] at hy2; clear ed2; have hy20 : wT.cell? (adw.add 0) = some (.string wd) := hy2; have hy21 := hy2; simp [Addr.add] at hy21; have hcg0 : wT.cell? ⟨g10, 0, none⟩ = some (.string fr) := (blk_cell HBA.out 0).trans rfl; have hcg1 : wT.cell? ⟨g10, 1, none⟩ = some (.int .i64 p) := (blk_cell HBA.out 1).trans rfl; have hcg2 : wT.cell? ⟨g10, 2, none⟩ = some (.string bi) := (blk_cell HBA.out 2).trans rfl; have hcg3 : wT.cell? ⟨g10, 3, none⟩ = some (.slice A3 n.length c3) := (blk_cell HBA.out 3).trans rfl; have hcg4 : wT.cell? ⟨g10, 4, none⟩ = some (.slice A4 li.length c4) := (blk_cell HBA.out 4).trans rfl))
    go_region_with (go_at_call 91; (with_reducible refine (impl_Console_carry.calls k g9 (.slice Ac n0.length cc) (.slice Ad n1.length cd) n0 n1 wd fr p bi A3 c3 n A4 c4 li tx false m0 m1 w2 _ ?q1 ?q2 ?q3 ?q4 ?q5 ?q6 ?q7 B5_.out).mono ?_); (case q1 => exact con_below HC10.out Qj0_); (case q2 => exact below_step HBK.out Qj0_); (case q3 => exact Kd.C_below HQ3.out Qj0_); (case q4 => exact (Kd.R_reads' HR3.out).2.1); (case q5 => exact Kd.C_below HQ4.out Qj0_); (case q6 => exact (Kd.R_reads' HR4.out).2.1); (case q7 => exact tabBelow HT.out (below_step HI10.out.1 Qj0_)); rintro e w5 ⟨rfl, v0', v1', hc5, hb5⟩; obtain ⟨Ae, ce, ee⟩ := Kd.R_slice hc5.2.2.1; subst ee; obtain ⟨Af, cf, ef⟩ := Kd.R_slice hc5.2.2.2.1; subst ef; have HC5 := Aside0.mk hc5; have HI5 := Aside0.mk (HI2.out.below hb5); clear hc5 hb5; have hce0 : w5.cell? ⟨gc, 0, none⟩ = some (.slice A0 l0.length c0) := (blk_cell HI5.out.2.2.2.2.1 0).trans rfl; have hce1 : w5.cell? ⟨gc, 1, none⟩ = some (.slice A1 l1.length c1) := (blk_cell HI5.out.2.2.2.2.1 1).trans rfl; have hcf0 : w5.cell? ⟨g9, 0, none⟩ = some (.slice Ae m0.length ce) := (blk_cell HC5.out.2.1 0).trans rfl; have hcf1 : w5.cell? ⟨g9, 1, none⟩ = some (.slice Af m1.length cf) := (blk_cell HC5.out.2.1 1).trans rfl)
    all_goals (go_wp2_with (first | ((with_reducible refine gate_store (t := 39) (p := 4) rfl ?_); refine ra_store ?a1 ?a2 39 (.tmp 4) (.tmp 56) ?a3 ge #[.slice A0 l0.length c0, .slice A1 l1.length c1] ?a4 ?a5 39 #[.slice none 0 0, .slice none 0 0] HI5.out.2.2.2.2.2.1 ?a6 ?a7 ?a8 ?_; (case a1 => rfl); (case a2 => rfl); (case a3 => rfl); (case a4 => rfl); (case a5 => rfl); (case a6 => rfl); (case a7 => rfl); (case a8 => exact Qo0_); intro wz hs1 hs2 hs3; have HS1 := Aside0.mk hs1; have HS3 := Aside0.mk (hs3 _ _ HI5.out.1 HI5.out.2.2.1); clear hs1 hs2 hs3)); refine bodyPost_ret (ra_results rfl _ _ ge 39 #[.slice A0 l0.length c0, .slice A1 l1.length c1] (0, 0) _ _ rfl HS1.out Tryz.underlying39 rfl Qi0_ rfl) rfl ?_; exact ⟨.slice A0 l0.length c0, .slice A1 l1.length c1, rfl, .inl (by first | exact ⟨rfl, rfl, rfl, rfl⟩ | (simp; done)), HS3.out⟩)
   | true =>
    rw [if_pos rfl] at h
    simp only [Option.some.injEq, Prod.mk.injEq] at h
    obtain ⟨rfl, rfl, rfl⟩ := h
    go_enter Tryz.func54, Tryz.ntmps54
    go_wp2_with (first | ((with_reducible refine gate_dst (N := 2) rfl ?_); (try (refine gate_guard (by rfl) ?_; dsimp only)); refine box_event ?hg (N := 2) ?hd (cs := #[.slice A0 l0.length c0, .slice A1 l1.length c1]) (t := 39) ?hr ?_; (case hd => rfl); (case hg => rfl); (case hr => exact Qh0_); intro gc hggc wgc hbox hb; have n0_ := Aside0.mk (below_step Qa0_ hb); have HGC := Aside0.mk (show w.heap.size ≤ gc by omega); have n1_ := Aside0.mk (hbox); clear HB; have HB := n0_; have BKgc := n1_; clear n0_ n1_; clear hb hbox hggc) | ((with_reducible refine gate_dst (N := 4) rfl ?_); (try (refine gate_guard (by rfl) ?_; dsimp only)); refine box_event ?hg (N := 4) ?hd (cs := #[.slice none 0 0, .slice none 0 0]) (t := 39) ?hr ?_; (case hd => rfl); (case hg => rfl); (case hr => exact Qh0_); intro ge hgge wge hbox hb; have n0_ := Aside0.mk (below_step Qa0_ hb); have BKC2 := Aside0.mk ((hb.block gc (ra_blt BKgc.out)).trans BKgc.out); have HNE := Aside0.mk (show gc ≠ ge from fun e_ => by have := ra_blt BKgc.out; omega); have HGE := Aside0.mk (show w.heap.size ≤ ge by have := HB.out.size; omega); have n1_ := Aside0.mk (hbox); clear HB; have HB := n0_; have BKge := n1_; clear n0_ n1_; clear hb hbox hgge) | (go_at_call 53; (with_reducible refine (strings_Split.calls line (⟨#[32]⟩ : ByteArray) ws _ B1_.out).mono ?_); rintro e w1 ⟨vw, rfl, hr, hb⟩; obtain ⟨Aw, cw, ew, hlw, hCw⟩ := Kd.R_reads hr; subst ew; have HLW := Aside0.mk hlw; have HI := Aside0.mk (show CmI w w1 gc ge (.slice A0 l0.length c0) (.slice A1 l1.length c1) Aw ws from ⟨below_step HB.out hb, HGC.out, HGE.out, HNE.out, (hb.block gc (ra_blt BKC2.out)).trans BKC2.out, (hb.block ge (ra_blt BKge.out)).trans BKge.out, hCw⟩); clear HB HGC HGE HNE BKgc BKC2 BKge hr hb hlw hCw; obtain ⟨adw, edw, hxw⟩ := Kd.at_string HI.out.2.2.2.2.2.2 0 (by decide) E1.out; cases edw; rw [HWD.out] at hxw; have hxw0 : w1.cell? (adw.add 0) = some (.string wd) := hxw; have pws := E1N.out; have qws := E1.out; have hxw1 := hxw; simp [Addr.add] at hxw1; obtain ⟨iS, hiS, _, hzS, _⟩ := info_parts info9; obtain ⟨Aq, hcut0, hcq, hcc⟩ := print_drop_of (P := Tryz.prog) Value.string (⟨#[]⟩ : ByteArray) 23 9 .i64 Tryz.underlying23 hiS hzS (some adw) cw ws 1 (by decide) (by have := E1.out; omega) HLW.out; rw [show (1 : Int).toNat = 1 from rfl, HWT.out] at hcut0 hcq hcc; have HQ := Aside0.mk (And.intro (fun (wx : World) (hx : Kd.C Kd.string wx (some adw) ws.length ws) => (Kd.C_of_reads (h1 := fun _ => rfl) (hcq wx (Kd.reads_of_C hx)) : Kd.C Kd.string wx Aq wt.length wt)) hcc); clear hcq hcc hiS hzS) | (go_at_call 89; (with_reducible refine (impl_kindsOf.calls wd fo true _ B2_.out).mono ?_); rintro e w2 ⟨rfl, hb⟩; have HI2 := Aside0.mk (HI.out.below hb); clear hb hxw hxw0 hxw1; have hcc0 : w2.cell? ⟨gc, 0, none⟩ = some (.slice A0 l0.length c0) := (blk_cell HI2.out.2.2.2.2.1 0).trans rfl; have hcc1 : w2.cell? ⟨gc, 1, none⟩ = some (.slice A1 l1.length c1) := (blk_cell HI2.out.2.2.2.2.1 1).trans rfl) | (go_at_call 56; (with_reducible refine (impl_copyConsole.calls A0 c0 l0 A1 c1 l1 n0 n1 _ ?s1 ?s2 ?s3 ?s4 B3_.out).mono ?_); (case s1 => exact Kd.C_below HR0.out HI2.out.1); (case s2 => exact HC0.out); (case s3 => exact Kd.C_below HR1.out HI2.out.1); (case s4 => exact HC1.out); rintro e w3 ⟨v0, v1, rfl, hr0, hr1, hb⟩; obtain ⟨Ac, cc, ec⟩ := Kd.R_slice hr0; subst ec; obtain ⟨Ad, cd, ed⟩ := Kd.R_slice hr1; subst ed; have HK0 := Aside0.mk hr0; have HK1 := Aside0.mk hr1; have HK2 := Aside0.mk hb; have HB := Aside0.mk hb; clear hr0 hr1 hb) | ((with_reducible refine gate_dst (N := 9) rfl ?_); (try (refine gate_guard (by rfl) ?_; dsimp only)); refine box_event ?hg (N := 9) ?hd (cs := #[.slice none 0 0, .slice none 0 0]) (t := 39) ?hr ?_; (case hd => rfl); (case hg => rfl); (case hr => exact Qh0_); intro g9 hgg9 w9 hbox hb; have n0_ := Aside0.mk (below_step Qa0_ hb); have HG9 := Aside0.mk hgg9; have HB9 := Aside0.mk hb; have n1_ := Aside0.mk (hbox); clear HB; have HB := n0_; have BKg9 := n1_; clear n0_ n1_; clear hb hbox hgg9) | ((with_reducible refine gate_store (t := 39) (p := 9) rfl ?_); refine ra_store ?b1 ?b2 39 (.tmp 9) (.tmp 35) ?b3 g9 #[.slice Ac n0.length cc, .slice Ad n1.length cd] ?b4 ?b5 39 #[.slice none 0 0, .slice none 0 0] BKg9.out ?b6 ?b7 ?b8 ?_; (case b1 => rfl); (case b2 => rfl); (case b3 => rfl); (case b4 => rfl); (case b5 => rfl); (case b6 => rfl); (case b7 => rfl); (case b8 => exact Qo0_); intro wS hs1 hs2 hs3; have HC9 := Aside0.mk (cm_out HK0.out HK1.out HK2.out (Nat.le_of_eq HG9.out.symm) HB.out HB9.out hs1 hs2 hs3); clear hs1 hs2 hs3) | (go_at_call 90; (with_reducible refine (impl_Console_read.calls k w2.heap.size g9 (.slice Ac n0.length cc) (.slice Ad n1.length cd) n0 n1 fo Aq (cw - 1) wt fr p bi n li true _ ?r1 ?r2 ?r3 ?r4 B4_.out).mono ?_); (case r1 => exact HC9.out.1); (case r2 => exact HQ.out.1 _ (HI2.out.below HC9.out.2).2.2.2.2.2.2); (case r3 => exact HQ.out.2); (case r4 => exact tabBelow HT.out ((HI2.out.below HC9.out.2).1)); rintro e w4 ⟨vn, vl, rfl, hr3, hr4, hb⟩; obtain ⟨A3, c3, e3_⟩ := Kd.R_slice hr3; subst e3_; obtain ⟨A4, c4, e4_⟩ := Kd.R_slice hr4; subst e4_; have HR3 := Aside0.mk hr3; have HR4 := Aside0.mk hr4; have HB4 := Aside0.mk hb; clear hr3 hr4 hb) | ((with_reducible refine gate_dst (N := 10) rfl ?_); (try (refine gate_guard (by rfl) ?_; dsimp only)); refine box_event ?hg (N := 10) ?hd (cs := #[.string (⟨#[]⟩ : ByteArray), .int .i64 0, .string (⟨#[]⟩ : ByteArray), .slice none 0 0, .slice none 0 0]) (t := 105) ?hr ?_; (case hd => rfl); (case hg => rfl); (case hr => exact Qh0_); intro g10 hgg10 w10 hbox hb; have n0_ := Aside0.mk (below_step Qq1_ hb); have HG10 := Aside0.mk hgg10; have HG11 := Aside0.mk (show wS.heap.size ≤ g10 from Nat.le_trans HB4.out.size (Nat.le_of_eq hgg10.symm)); have HB10 := Aside0.mk hb; have n1_ := Aside0.mk (hbox); clear HB4; have HB4 := n0_; have BKg10 := n1_; clear n0_ n1_; clear hb hbox hgg10) | ((with_reducible refine gate_store (t := 105) (p := 10) rfl ?_); refine ra_store ?d1 ?d2 105 (.tmp 10) (.tmp 41) ?d3 g10 #[.string fr, .int .i64 p, .string bi, .slice A3 n.length c3, .slice A4 li.length c4] ?d4 ?d5 105 #[.string (⟨#[]⟩ : ByteArray), .int .i64 0, .string (⟨#[]⟩ : ByteArray), .slice none 0 0, .slice none 0 0] BKg10.out ?d6 ?d7 ?d8 ?_; (case d1 => rfl); (case d2 => rfl); (case d3 => rfl); (case d4 => rfl); (case d5 => rfl); (case d6 => rfl); (case d7 => rfl); (case d8 => exact Qo0_); intro wT hs1 hs2 hs3; have HST := Aside0.mk (hs3 _ _ HB4.out HG11.out); have HC10 := Aside0.mk (con_below HC9.out.1 HST.out); have HBK := Aside0.mk (below_step HC9.out.2 HST.out); have HI10 := Aside0.mk (HI2.out.below HBK.out); have HQ3 := Aside0.mk (Kd.C_below (Kd.R_reads' HR3.out).2.2 (hs3 _ _ HB10.out (Nat.le_of_eq HG10.out.symm))); have HQ4 := Aside0.mk (Kd.C_below (Kd.R_reads' HR4.out).2.2 (hs3 _ _ HB10.out (Nat.le_of_eq HG10.out.symm))); have HBA := Aside0.mk hs1; have hcc0 : wT.cell? ⟨gc, 0, none⟩ = some (.slice A0 l0.length c0) := (blk_cell HI10.out.2.2.2.2.1 0).trans rfl; have hcc1 : wT.cell? ⟨gc, 1, none⟩ = some (.slice A1 l1.length c1) := (blk_cell HI10.out.2.2.2.2.1 1).trans rfl; clear hs1 hs2 hs3; obtain ⟨ad2, ed2, hy2⟩ := Kd.at_string HI10.out.2.2.2.2.2.2 0 (by decide) E1.out; rw [← Option.some.inj ed2, HWD.out] at hy2; clear ed2; have hy20 : wT.cell? (adw.add 0) = some (.string wd) := hy2; have hy21 := hy2; simp [Addr.add] at hy21; have hcg0 : wT.cell? ⟨g10, 0, none⟩ = some (.string fr) := (blk_cell HBA.out 0).trans rfl; have hcg1 : wT.cell? ⟨g10, 1, none⟩ = some (.int .i64 p) := (blk_cell HBA.out 1).trans rfl; have hcg2 : wT.cell? ⟨g10, 2, none⟩ = some (.string bi) := (blk_cell HBA.out 2).trans rfl; have hcg3 : wT.cell? ⟨g10, 3, none⟩ = some (.slice A3 n.length c3) := (blk_cell HBA.out 3).trans rfl; have hcg4 : wT.cell? ⟨g10, 4, none⟩ = some (.slice A4 li.length c4) := (blk_cell HBA.out 4).trans rfl))
    go_region_with (go_at_call 91; (with_reducible refine (impl_Console_carry.calls k g9 (.slice Ac n0.length cc) (.slice Ad n1.length cd) n0 n1 wd fr p bi A3 c3 n A4 c4 li tx true m0 m1 w2 _ ?q1 ?q2 ?q3 ?q4 ?q5 ?q6 ?q7 B5_.out).mono ?_); (case q1 => exact con_below HC10.out Qj0_); (case q2 => exact below_step HBK.out Qj0_); (case q3 => exact Kd.C_below HQ3.out Qj0_); (case q4 => exact (Kd.R_reads' HR3.out).2.1); (case q5 => exact Kd.C_below HQ4.out Qj0_); (case q6 => exact (Kd.R_reads' HR4.out).2.1); (case q7 => exact tabBelow HT.out (below_step HI10.out.1 Qj0_)); rintro e w5 ⟨rfl, v0', v1', hc5, hb5⟩; obtain ⟨Ae, ce, ee⟩ := Kd.R_slice hc5.2.2.1; subst ee; obtain ⟨Af, cf, ef⟩ := Kd.R_slice hc5.2.2.2.1; subst ef; have HC5 := Aside0.mk hc5; have HI5 := Aside0.mk (HI2.out.below hb5); clear hc5 hb5; have hce0 : w5.cell? ⟨gc, 0, none⟩ = some (.slice A0 l0.length c0) := (blk_cell HI5.out.2.2.2.2.1 0).trans rfl; have hce1 : w5.cell? ⟨gc, 1, none⟩ = some (.slice A1 l1.length c1) := (blk_cell HI5.out.2.2.2.2.1 1).trans rfl; have hcf0 : w5.cell? ⟨g9, 0, none⟩ = some (.slice Ae m0.length ce) := (blk_cell HC5.out.2.1 0).trans rfl; have hcf1 : w5.cell? ⟨g9, 1, none⟩ = some (.slice Af m1.length cf) := (blk_cell HC5.out.2.1 1).trans rfl)
    all_goals (go_wp2_with (first | ((with_reducible refine gate_store (t := 39) (p := 4) rfl ?_); refine ra_store ?a1 ?a2 39 (.tmp 4) (.tmp 57) ?a3 ge #[.slice Ae m0.length ce, .slice Af m1.length cf] ?a4 ?a5 39 #[.slice none 0 0, .slice none 0 0] HI5.out.2.2.2.2.2.1 ?a6 ?a7 ?a8 ?_; (case a1 => rfl); (case a2 => rfl); (case a3 => rfl); (case a4 => rfl); (case a5 => rfl); (case a6 => rfl); (case a7 => rfl); (case a8 => exact Qo0_); intro wz hs1 hs2 hs3; have HS1 := Aside0.mk hs1; have HS3 := Aside0.mk (hs3 _ _ HI5.out.1 HI5.out.2.2.1); have HM0 := Aside0.mk (Kd.R_lower (cm_row HC5.out.2.2.1 HI2.out.2.2.2.2.2.1 hs2) HI2.out.1.size); have HM1 := Aside0.mk (Kd.R_lower (cm_row HC5.out.2.2.2.1 HI2.out.2.2.2.2.2.1 hs2) HI2.out.1.size); clear hs1 hs2 hs3)); refine bodyPost_ret (ra_results rfl _ _ ge 39 #[.slice Ae m0.length ce, .slice Af m1.length cf] (0, 0) _ _ rfl HS1.out Tryz.underlying39 rfl Qi0_ rfl) rfl ?_; exact ⟨.slice Ae m0.length ce, .slice Af m1.length cf, rfl, .inr ⟨HM0.out, HM1.out⟩, HS3.out⟩)
def RcR (w w' : World) (v : Value) (xs : List ByteArray) : Prop :=
 (∃ A c, v = .slice A xs.length c ∧ Kd.C Kd.string w A xs.length xs ∧ xs.length ≤ c) ∨ Kd.R Kd.string 9 w' w.heap.size (fun _ => True) v xs
theorem RcR.reads {w w' : World} {v : Value} {xs : List ByteArray} (h : RcR w w' v xs) (hb : Below w.heap.size w w') : ∃ A c, v = .slice A xs.length c ∧ Kd.C Kd.string w' A xs.length xs ∧ xs.length ≤ c := by
 rcases h with ⟨A, c, e, h1, h2⟩ | h
 ·exact ⟨A, c, e, Kd.C_below h1 hb, h2⟩
 ·obtain ⟨A, c, e, hl, hC⟩ := Kd.R_reads h
  exact ⟨A, c, e, hC, hl⟩
theorem rc_row {w1 w2 : World} {base : Nat} {ok : Nat → Prop} {v : Value} {xs : List ByteArray} (h : Kd.R Kd.string 9 w1 base ok v xs) (hm : ∀ (k : Nat) (c : Array Value), w1.heap[k]? = some (.cells c 9 (0, 0)) → w2.heap[k]? = w1.heap[k]?) : Kd.R Kd.string 9 w2 base ok v xs := by
 refine Kd.R_of_own (own_move (Kd.own_of_R h) (fun k hk => ?_)) h.1
 obtain ⟨c, hc⟩ := own_typed (Kd.own_of_R h) k hk
 exact hm k c hc
theorem RcR.readC {w w' : World} {A : Option Addr} {n c : Nat} {xs : List ByteArray} (h : RcR w w' (.slice A n c) xs) (hb : Below w.heap.size w w') : Kd.C Kd.string w' A xs.length xs := by
 obtain ⟨A', c', e, hC, hl⟩ := h.reads hb
 injection e with e1 e2 e3
 subst e1
 exact hC
theorem RcR.move {w w1 w2 : World} {v : Value} {xs : List ByteArray} (h : RcR w w1 v xs) (hm : ∀ (k : Nat) (c : Array Value), w1.heap[k]? = some (.cells c 9 (0, 0)) → w2.heap[k]? = w1.heap[k]?) : RcR w w2 v xs := by
 rcases h with h | h
 ·exact .inl h
 ·exact .inr (rc_row h hm)
theorem RcR.below {w w1 w2 : World} {v : Value} {xs : List ByteArray} (h : RcR w w1 v xs) (hb : Below w1.heap.size w1 w2) : RcR w w2 v xs := h.move (fun k c hc => hb.block k (ra_blt hc))
def RcI (w w' : World) (gc ge : Nat) (v0 v1 : Value) (n0 n1 : List ByteArray) : Prop :=
 Below w.heap.size w w' ∧ w.heap.size ≤ gc ∧ w.heap.size ≤ ge ∧ gc ≠ ge ∧ w'.heap[gc]? = some (.cells #[v0, v1] 39 (0, 0)) ∧ w'.heap[ge]? = some (.cells #[.slice none 0 0, .slice none 0 0] 39 (0, 0)) ∧ RcR w w' v0 n0 ∧ RcR w w' v1 n1
theorem RcI.below {w w1 w2 : World} {gc ge : Nat} {v0 v1 : Value} {n0 n1 : List ByteArray} (h : RcI w w1 gc ge v0 v1 n0 n1) (hb : Below w1.heap.size w1 w2) : RcI w w2 gc ge v0 v1 n0 n1 := by
 obtain ⟨h1, h2, h3, h4, h5, h6, h7, h8⟩ := h
 exact ⟨below_step h1 hb, h2, h3, h4, (hb.block gc (ra_blt h5)).trans h5, (hb.block ge (ra_blt h6)).trans h6, h7.below hb, h8.below hb⟩
theorem RcI.set {w w1 w2 : World} {gc ge : Nat} {v0 v1 u0 u1 : Value} {n0 n1 m0 m1 : List ByteArray} (h : RcI w w1 gc ge v0 v1 n0 n1) (r0 : RcR w w1 u0 m0) (r1 : RcR w w1 u1 m1) (hs1 : w2.heap[gc]? = some (.cells #[u0, u1] 39 (0, 0))) (hs2 : ∀ k, k ≠ gc → w2.heap[k]? = w1.heap[k]?) (hs3 : ∀ B w0, Below B w0 w1 → B ≤ gc → Below B w0 w2) : RcI w w2 gc ge u0 u1 m0 m1 := by
 obtain ⟨h1, h2, h3, h4, h5, h6, h7, h8⟩ := h
 have hm : ∀ (k : Nat) (c : Array Value), w1.heap[k]? = some (.cells c 9 (0, 0)) → w2.heap[k]? = w1.heap[k]? := fun k c hc => hs2 k (blk_ne hc h5 (by decide))
 exact ⟨hs3 _ _ h1 h2, h2, h3, h4, hs1, (hs2 ge h4.symm).trans h6, r0.move hm, r1.move hm⟩
theorem RcI.come {w w1 w2 : World} {gc ge : Nat} {A0 A1 : Option Addr} {c0 c1 : Nat} {va vb : Value} {l0 l1 r0 r1 : List ByteArray} (h : RcI w w1 gc ge (.slice A0 l0.length c0) (.slice A1 l1.length c1) l0 l1) (hb : Below w1.heap.size w1 w2)
 (hab : (va = .slice A0 l0.length c0 ∧ vb = .slice A1 l1.length c1 ∧ r0 = l0 ∧ r1 = l1) ∨ (Kd.R Kd.string 9 w2 w1.heap.size (fun _ => True) va r0 ∧ Kd.R Kd.string 9 w2 w1.heap.size (fun _ => True) vb r1)) : RcR w w2 va r0 ∧ RcR w w2 vb r1 := by
 rcases hab with ⟨rfl, rfl, rfl, rfl⟩ | ⟨h1, h2⟩
 ·exact ⟨h.2.2.2.2.2.2.1.below hb, h.2.2.2.2.2.2.2.below hb⟩
 ·exact ⟨.inr (Kd.R_lower h1 h.1.size), .inr (Kd.R_lower h2 h.1.size)⟩
theorem rc_nil (w : World) (base : Nat) (ok : Nat → Prop) : Kd.R Kd.string 9 w base ok (.slice none 0 0) ([] : List ByteArray) := Kd.R_of_own ⟨rfl, .inl ⟨rfl, rfl⟩⟩ (fun _ h => by cases h)
theorem rc_results {P : Program} {fn : Func} {p u v : Tmp} {ty : TypeId} (h : fn.results = #[.cell p ty, .tmp u, .tmp v]) (tmps : Array Value) (w : World) (g : Nat) (t : TypeId) (cs : Array Value) (fr : Nat × Nat) (d : TypeDesc) (x y : Value)
 (hp : tmps.getD p undef = .pointer (some ⟨g, 0, none⟩)) (hg : w.heap[g]? = some (.cells cs t fr))
 (hu : P.underlying ty = some d) (hd : (match d with | .struct _ | .array _ _ => true | _ => false) = true) (hi : (P.info? ty).map (·.size) = some cs.size) (hx : tmps.getD u undef = x) (hy : tmps.getD v undef = y) :
 (results fn tmps).run P w = .ok (.tuple #[.agg cs, x, y]) w := by
 have hp' : tmps[p]?.getD undef = .pointer (some ⟨g, 0, none⟩) := by simpa using hp
 have hx' : tmps[u]?.getD undef = x := by simpa using hx
 have hy' : tmps[v]?.getD undef = y := by simpa using hy
 simp [results, h, hp', hx', hy', asAddr, run_loadVar_row w g t ty cs fr d hg hu hd hi]
theorem rn_cells (s t : ByteArray) : Lib.byteCells s.data.toList ++ Lib.strCells t = Lib.byteCells (s ++ t).data.toList := by
 rw [ByteArray.data_append, Array.toList_append]
 simp [Lib.byteCells, Lib.strCells]
theorem rn_len (s : ByteArray) : (Lib.byteCells s.data.toList).length = s.size := by
 unfold Lib.byteCells
 rw [List.length_map, Array.length_toList]; rfl
theorem rn_write_k (B b : Nat) (bs : List Value) (s : ByteArray) (w : World) (h : Lib.IsBuilderF 68 5 B b bs w) (hlen : bs.length + s.size ≤ 140737488355328) (hBw : B ≤ w.heap.size) :
 Calls Tryz.prog 55 #[.pointer (some ⟨b, 0, none⟩), .string s] w fun e w' => e = .returned (.tuple #[.int .i64 s.size, .nilIface]) ∧ (Lib.BuilderAtF 68 5 B b (.pointer (some ⟨b, 0, none⟩)) (bs ++ Lib.strCells s) w' ∧ Below B w w' ∧ Lib.OthersKept 5 (some b) w w') := Any.Builder_WriteString_k Tryz.lays166 Tryz.Builder_Extra_166 B b bs s w h hlen hBw
theorem rn_string_k (B b : Nat) (l : List UInt8) (w : World) (h : Lib.IsBuilderF 68 5 B b (Lib.byteCells l) w) (hBw : B ≤ w.heap.size) :
 Calls Tryz.prog 57 #[.pointer (some ⟨b, 0, none⟩)] w fun e w' => e = .returned (.string ⟨l.toArray⟩) ∧ (Lib.IsBuilderF 68 5 B b (Lib.byteCells l) w' ∧ Below B w w' ∧ Lib.OthersKept 5 (some b) w w') := Any.Builder_String_any_k Tryz.lays169 Tryz.Builder_Extra_169 B b l w h hBw
theorem rn_keepAt {B b : Nat} {p : Value} {bs : List Value} {W W' : World} (h : Lib.BuilderAtF 68 5 B b p bs W) (hm : ∀ (k : Nat) (c : Array Value) (t : TypeId) (fz : Nat × Nat), W.heap[k]? = some (.cells c t fz) → t ≠ 39 → W'.heap[k]? = W.heap[k]?) : Lib.BuilderAtF 68 5 B b p bs W' := by
 obtain ⟨h1, v, h2, h3, h4⟩ := h
 refine ⟨h1, v, (hm b _ _ _ h2 (by decide)).trans h2, ⟨h3.1, ?_⟩, h4⟩
 rcases h3.2 with h5 | ⟨g, cap, cur, fz, e, hg, hh, r⟩
 ·exact .inl h5
 ·exact .inr ⟨g, cap, cur, fz, e, hg, (hm g _ _ _ hh (by decide)).trans hh, r⟩
theorem rn_keep {B b : Nat} {bs : List Value} {W W' : World} (h : Lib.IsBuilderF 68 5 B b bs W) (hm : ∀ (k : Nat) (c : Array Value) (t : TypeId) (fz : Nat × Nat), W.heap[k]? = some (.cells c t fz) → t ≠ 39 → W'.heap[k]? = W.heap[k]?) : Lib.IsBuilderF 68 5 B b bs W' :=
 h.elim (fun h => .inl (rn_keepAt h hm)) (fun h => .inr (rn_keepAt h hm))
theorem rn_block {B b : Nat} {bs : List Value} {W : World} (h : Lib.IsBuilderF 68 5 B b bs W) : ∃ c, W.heap[b]? = some (.cells c 68 (0, 0)) := by
 rcases h with ⟨_, v, h2, _⟩ | ⟨_, v, h2, _⟩
 ·exact ⟨_, h2⟩
 ·exact ⟨_, h2⟩
def RnI (w w' : World) (gc ge gb : Nat) (v0 v1 : Value) (n0 n1 : List ByteArray) (vw : Value) (ws : List ByteArray) (out : ByteArray) : Prop :=
 RcI w w' gc ge v0 v1 n0 n1 ∧ RcR w w' vw ws ∧ Lib.IsBuilderF 68 5 w.heap.size gb (Lib.byteCells out.data.toList) w'
theorem RnI.below {w w1 w2 : World} {gc ge gb : Nat} {v0 v1 vw : Value} {n0 n1 ws : List ByteArray} {out : ByteArray} (h : RnI w w1 gc ge gb v0 v1 n0 n1 vw ws out) (hb : Below w1.heap.size w1 w2) : RnI w w2 gc ge gb v0 v1 n0 n1 vw ws out :=
 ⟨h.1.below hb, h.2.1.below hb, rn_keep h.2.2 (fun k c t fz hc _ => hb.block k (ra_blt hc))⟩
theorem RnI.set {w w1 w2 : World} {gc ge gb : Nat} {v0 v1 vw u0 u1 : Value} {n0 n1 ws m0 m1 : List ByteArray} {out : ByteArray} (h : RnI w w1 gc ge gb v0 v1 n0 n1 vw ws out) (r0 : RcR w w1 u0 m0) (r1 : RcR w w1 u1 m1) (hs1 : w2.heap[gc]? = some (.cells #[u0, u1] 39 (0, 0))) (hs2 : ∀ k, k ≠ gc → w2.heap[k]? = w1.heap[k]?) (hs3 : ∀ B w0, Below B w0 w1 → B ≤ gc → Below B w0 w2) : RnI w w2 gc ge gb u0 u1 m0 m1 vw ws out :=
 ⟨h.1.set r0 r1 hs1 hs2 hs3, h.2.1.move (fun k c hc => hs2 k (blk_ne hc h.1.2.2.2.2.1 (by decide))), rn_keep h.2.2 (fun k c t fz hc ht => hs2 k (fun e => by
  have h5 := h.1.2.2.2.2.1
  rw [← e, hc] at h5
  injection h5 with h6
  injection h6 with _ h7 _
  exact ht h7))⟩
theorem rn_far {W W' : World} {gb : Nat} {k : Nat} {c c' : Array Value} {t : TypeId} (ho : Lib.OthersKept 5 (some gb) W W') (hb : W.heap[gb]? = some (.cells c' 68 (0, 0))) (hk : W.heap[k]? = some (.cells c t (0, 0))) (h1 : t ≠ 68) (h2 : t ≠ 5) : W'.heap[k]? = W.heap[k]? :=
 (ho k _ hk (fun e => blk_ne hk hb h1 (Option.some.inj e)) (fun c_ fz e => by injection e with e1 e2 e3; exact h2 e2)).trans hk.symm
theorem RnI.kept {w w1 w2 : World} {gc ge gb : Nat} {v0 v1 vw : Value} {n0 n1 ws : List ByteArray} {out o2 : ByteArray} (h : RnI w w1 gc ge gb v0 v1 n0 n1 vw ws out) (hb : Below w.heap.size w1 w2) (ho : Lib.OthersKept 5 (some gb) w1 w2) (hn : Lib.IsBuilderF 68 5 w.heap.size gb (Lib.byteCells o2.data.toList) w2) : RnI w w2 gc ge gb v0 v1 n0 n1 vw ws o2 := by
 obtain ⟨c, hc⟩ := rn_block h.2.2
 have hm : ∀ (k : Nat) (c : Array Value), w1.heap[k]? = some (.cells c 9 (0, 0)) → w2.heap[k]? = w1.heap[k]? := fun k c' hk => rn_far ho hc hk (by decide) (by decide)
 obtain ⟨h1, h2, h3, h4, h5, h6, h7, h8⟩ := h.1
 exact ⟨⟨h1.trans hb, h2, h3, h4, (rn_far ho hc h5 (by decide) (by decide)).trans h5, (rn_far ho hc h6 (by decide) (by decide)).trans h6, h7.move hm, h8.move hm⟩, h.2.1.move hm, hn⟩
theorem RnI.write {w w1 w2 : World} {gc ge gb : Nat} {v0 v1 vw : Value} {n0 n1 ws : List ByteArray} {out s : ByteArray} (h : RnI w w1 gc ge gb v0 v1 n0 n1 vw ws out) (hb : Below w.heap.size w1 w2) (ho : Lib.OthersKept 5 (some gb) w1 w2) (hn : Lib.BuilderAtF 68 5 w.heap.size gb (.pointer (some ⟨gb, 0, none⟩)) (Lib.byteCells out.data.toList ++ Lib.strCells s) w2) : RnI w w2 gc ge gb v0 v1 n0 n1 vw ws (out ++ s) :=
 h.kept hb ho (.inr (by rw [← rn_cells]; exact hn))
def impl_RunConsole.l0 : Nat → List ByteArray → Int → Int → List ByteArray → List ByteArray → ByteArray → Option (List ByteArray × List ByteArray × ByteArray × Bool)
 | 0, _, _, _, _, _, _ => none
 | k + 1, ws, z, i, n0, n1, out => if i < z then (if 0 ≤ i then ((impl_command.f k n0 n1 (rdOf ByteArray.empty ws i)).bind fun t => (if out.size + t.2.2.size + 1 ≤ 140737488355328 then (impl_RunConsole.l0 k ws z (wrap64 (i + 1)) t.1 t.2.1 (out ++ (t.2.2 ++ (⟨#[10]⟩ : ByteArray)))) else (none))) else (none)) else ((impl_copyConsole.f n0 n1).bind fun c => (some (c.1, c.2, out, true)))
def impl_RunConsole.f (k : Nat) (l0 l1 : List ByteArray) (line : ByteArray) : Option (List ByteArray × List ByteArray × ByteArray × Bool) :=
 (strings_Split.f line (⟨#[10]⟩ : ByteArray)).bind fun ws => (if 0 < ws.length ∧ ws.length ≤ 4294967296 then (if (line.size : Int) > 4000 then (some (([] : List ByteArray), ([] : List ByteArray), (⟨#[]⟩ : ByteArray), false)) else (if (rdOf ByteArray.empty ws ((ws.length : Int) - 1)).toList = ([] : List UInt8) then ((impl_ValidConsole.f k l0 l1).bind fun t => (if t = true then (impl_RunConsole.l0 k ws ((ws.length : Int) - 1) 0 l0 l1 (⟨#[]⟩ : ByteArray)) else (some (([] : List ByteArray), ([] : List ByteArray), (⟨#[]⟩ : ByteArray), false)))) else (some (([] : List ByteArray), ([] : List ByteArray), (⟨#[]⟩ : ByteArray), false)))) else none)
set_option maxHeartbeats 8000000 in
set_option maxRecDepth 100000 in
theorem impl_RunConsole.calls (k : Nat) (A0 : Option Addr) (c0 : Nat) (l0 : List ByteArray) (A1 : Option Addr) (c1 : Nat) (l1 : List ByteArray) (line : ByteArray) (r0 r1 : List ByteArray) (r2 : ByteArray) (r3 : Bool) (w : World) (hr0 : Kd.C Kd.string w A0 l0.length l0) (hc0 : l0.length ≤ c0) (hr1 : Kd.C Kd.string w A1 l1.length l1) (hc1 : l1.length ≤ c1) (hT : LibW w) (h : impl_RunConsole.f k l0 l1 line = some (r0, r1, r2, r3)) :
 Calls Tryz.prog 18 #[.agg #[.slice A0 l0.length c0, .slice A1 l1.length c1], .string line] w fun e w' => ∃ v0_ v1_ : Value, e = .returned (.tuple #[.agg #[v0_, v1_], .string r2, .bool r3]) ∧ Kd.R Kd.string 9 w' w.heap.size (fun k_ => some k_ ≠ (v1_ : Value).ownBlock) v0_ r0 ∧ Kd.R Kd.string 9 w' w.heap.size (fun k_ => some k_ ≠ (v0_ : Value).ownBlock) v1_ r1 ∧ Below w.heap.size w w' := by
 have hu26 := Tryz.underlying39
 have HR0 := Aside0.mk hr0
 have HC0 := Aside0.mk hc0
 have HR1 := Aside0.mk hr1
 have HC1 := Aside0.mk hc1
 have HT := Aside0.mk hT
 have HB := Aside0.mk (Below.refl w.heap.size w)
 clear hr0 hc0 hr1 hc1 hT
 unfold impl_RunConsole.f at h
 obtain ⟨ws, B0, h⟩ := Option.bind_eq_some_iff.mp h
 have B0_ := Aside0.mk B0
 clear B0
 by_cases e1 : 0 < ws.length ∧ ws.length ≤ 4294967296
 rotate_left
 ·rw [if_neg e1] at h
  cases h
 rw [if_pos e1] at h
 obtain ⟨z, hz⟩ : ∃ y : Nat, (ws.length : Int) - 1 = (y : Int) := ⟨ws.length - 1, by omega⟩
 have hzw : IntKind.i64.wrap ((ws.length : Int) - 1) = (z : Int) := by rw [hz]; exact IntWalk.i64_in _ (by omega)
 rw [hz] at h
 have HZ := Aside0.mk (show 0 ≤ (z : Int) ∧ (z : Int) < (ws.length : Int) ∧ (z : Int) ≤ (ws.length : Int) ∧ (z : Int) ≤ 4294967296 by omega)
 have z0 : (0 ≤ (z : Int)) = True := eq_true (by omega)
 have z1 : ((z : Int) < (ws.length : Int)) = True := eq_true (by omega)
 have z2 : (z < ws.length) = True := eq_true (by omega)
 have hzt : (ws.take z).length = z := by rw [List.length_take]; omega
 clear hz e1
 by_cases e2 : (line.size : Int) > 4000
 ·rw [if_pos e2] at h
  have e2b0 : decide ((line.size : Int) > 4000) = true := decide_eq_true e2
  have e2b1 : decide (4000 < (line.size : Int)) = true := decide_eq_true e2
  have e2b2 : decide (4000 < line.size) = true := decide_eq_true (by omega)
  clear e2
  simp only [Option.some.injEq, Prod.mk.injEq] at h
  obtain ⟨rfl, rfl, rfl, rfl⟩ := h
  go_enter Tryz.func18, Tryz.ntmps18
  go_wp2_with (first | ((with_reducible refine gate_dst (N := 2) rfl ?_); (try (refine gate_guard (by rfl) ?_; dsimp only)); refine box_event ?hg (N := 2) ?hd (cs := #[.slice A0 l0.length c0, .slice A1 l1.length c1]) (t := 39) ?hr ?_; (case hd => rfl); (case hg => rfl); (case hr => exact Qh0_); intro gc hggc wgc hbox hb; have n0_ := Aside0.mk (below_step Qa0_ hb); have HGC := Aside0.mk (show w.heap.size ≤ gc by omega); have n1_ := Aside0.mk (hbox); clear HB; have HB := n0_; have BKgc := n1_; clear n0_ n1_; clear hb hbox hggc) | ((with_reducible refine gate_dst (N := 4) rfl ?_); (try (refine gate_guard (by rfl) ?_; dsimp only)); refine box_event ?hg (N := 4) ?hd (cs := #[.slice none 0 0, .slice none 0 0]) (t := 39) ?hr ?_; (case hd => rfl); (case hg => rfl); (case hr => exact Qh0_); intro ge hgge wge hbox hb; have n0_ := Aside0.mk (below_step Qa0_ hb); have BKC2 := Aside0.mk ((hb.block gc (ra_blt BKgc.out)).trans BKgc.out); have HNE := Aside0.mk (show gc ≠ ge from fun e_ => by have := ra_blt BKgc.out; omega); have HGE := Aside0.mk (show w.heap.size ≤ ge by have := HB.out.size; omega); have n1_ := Aside0.mk (hbox); clear HB; have HB := n0_; have BKge := n1_; clear n0_ n1_; clear hb hbox hgge; have HI := Aside0.mk (show RcI w wge gc ge (.slice A0 l0.length c0) (.slice A1 l1.length c1) l0 l1 from ⟨HB.out, HGC.out, HGE.out, HNE.out, BKC2.out, BKge.out, .inl ⟨A0, c0, rfl, HR0.out, HC0.out⟩, .inl ⟨A1, c1, rfl, HR1.out, HC1.out⟩⟩); clear HGC HGE HNE BKC2 BKgc BKge; have hcc0 : wge.cell? ⟨gc, 0, none⟩ = some (.slice A0 l0.length c0) := (blk_cell HI.out.2.2.2.2.1 0).trans rfl; have hcc1 : wge.cell? ⟨gc, 1, none⟩ = some (.slice A1 l1.length c1) := (blk_cell HI.out.2.2.2.2.1 1).trans rfl) | (go_at_call 53; (with_reducible refine (strings_Split.calls line (⟨#[10]⟩ : ByteArray) ws _ B0_.out).mono ?_); rintro e w1 ⟨vw, rfl, hr, hb⟩; obtain ⟨Aw, cw, ew, hlw, hCw⟩ := Kd.R_reads hr; subst ew; have HLW := Aside0.mk hlw; have HI2 := Aside0.mk (HI.out.below hb); have HW := Aside0.mk (show RcR w w1 (.slice Aw ws.length cw) ws from .inr (Kd.R_lower hr HI.out.1.size)); clear HI hr hb hlw; clear hCw) | ((with_reducible refine gate_store (t := 39) (p := 4) rfl ?_); refine ra_store ?a1 ?a2 39 (.tmp 4) (.tmp 34) ?a3 ge #[.slice none 0 0, .slice none 0 0] ?a4 ?a5 39 #[.slice none 0 0, .slice none 0 0] HI2.out.2.2.2.2.2.1 ?a6 ?a7 ?a8 ?_; (case a1 => rfl); (case a2 => rfl); (case a3 => rfl); (case a4 => rfl); (case a5 => rfl); (case a6 => rfl); (case a7 => rfl); (case a8 => exact Qo0_); intro wz hs1 hs2 hs3; have HS1 := Aside0.mk hs1; have HS2 := Aside0.mk hs2; have HS3 := Aside0.mk (hs3 _ _ HI2.out.1 HI2.out.2.2.1); skip; clear hs1 hs2 hs3))
  refine bodyPost_ret (rc_results rfl _ _ ge 39 #[.slice none 0 0, .slice none 0 0] (0, 0) _ _ _ rfl HS1.out Tryz.underlying39 rfl Qi0_ rfl rfl) rfl ?_; exact ⟨.slice none 0 0, .slice none 0 0, rfl, rc_nil _ _ _, rc_nil _ _ _, HS3.out⟩
 rw [if_neg e2] at h
 have e2b0 : decide ((line.size : Int) > 4000) = false := decide_eq_false e2
 have e2b1 : decide (4000 < (line.size : Int)) = false := decide_eq_false e2
 have e2b2 : decide (4000 < line.size) = false := decide_eq_false (by omega)
 clear e2
 obtain ⟨la, hla⟩ : ∃ y : ByteArray, rdOf ByteArray.empty ws (z : Int) = y := ⟨_, rfl⟩
 rw [hla] at h
 have HLA := Aside0.mk hla
 clear hla
 by_cases e3 : la.toList = ([] : List UInt8)
 rotate_left
 ·rw [if_neg e3] at h
  have e3b0 : (la.toList == ([] : List UInt8)) = false := beq_eq_false_iff_ne.mpr e3
  have e3b1 : (la.toList != ([] : List UInt8)) = true := bne_iff_ne.mpr e3
  clear e3
  simp only [Option.some.injEq, Prod.mk.injEq] at h
  obtain ⟨rfl, rfl, rfl, rfl⟩ := h
  go_enter Tryz.func18, Tryz.ntmps18
  go_wp2_with (first | ((with_reducible refine gate_dst (N := 2) rfl ?_); (try (refine gate_guard (by rfl) ?_; dsimp only)); refine box_event ?hg (N := 2) ?hd (cs := #[.slice A0 l0.length c0, .slice A1 l1.length c1]) (t := 39) ?hr ?_; (case hd => rfl); (case hg => rfl); (case hr => exact Qh0_); intro gc hggc wgc hbox hb; have n0_ := Aside0.mk (below_step Qa0_ hb); have HGC := Aside0.mk (show w.heap.size ≤ gc by omega); have n1_ := Aside0.mk (hbox); clear HB; have HB := n0_; have BKgc := n1_; clear n0_ n1_; clear hb hbox hggc) | ((with_reducible refine gate_dst (N := 4) rfl ?_); (try (refine gate_guard (by rfl) ?_; dsimp only)); refine box_event ?hg (N := 4) ?hd (cs := #[.slice none 0 0, .slice none 0 0]) (t := 39) ?hr ?_; (case hd => rfl); (case hg => rfl); (case hr => exact Qh0_); intro ge hgge wge hbox hb; have n0_ := Aside0.mk (below_step Qa0_ hb); have BKC2 := Aside0.mk ((hb.block gc (ra_blt BKgc.out)).trans BKgc.out); have HNE := Aside0.mk (show gc ≠ ge from fun e_ => by have := ra_blt BKgc.out; omega); have HGE := Aside0.mk (show w.heap.size ≤ ge by have := HB.out.size; omega); have n1_ := Aside0.mk (hbox); clear HB; have HB := n0_; have BKge := n1_; clear n0_ n1_; clear hb hbox hgge; have HI := Aside0.mk (show RcI w wge gc ge (.slice A0 l0.length c0) (.slice A1 l1.length c1) l0 l1 from ⟨HB.out, HGC.out, HGE.out, HNE.out, BKC2.out, BKge.out, .inl ⟨A0, c0, rfl, HR0.out, HC0.out⟩, .inl ⟨A1, c1, rfl, HR1.out, HC1.out⟩⟩); clear HGC HGE HNE BKC2 BKgc BKge; have hcc0 : wge.cell? ⟨gc, 0, none⟩ = some (.slice A0 l0.length c0) := (blk_cell HI.out.2.2.2.2.1 0).trans rfl; have hcc1 : wge.cell? ⟨gc, 1, none⟩ = some (.slice A1 l1.length c1) := (blk_cell HI.out.2.2.2.2.1 1).trans rfl) | (go_at_call 53; (with_reducible refine (strings_Split.calls line (⟨#[10]⟩ : ByteArray) ws _ B0_.out).mono ?_); rintro e w1 ⟨vw, rfl, hr, hb⟩; obtain ⟨Aw, cw, ew, hlw, hCw⟩ := Kd.R_reads hr; subst ew; have HLW := Aside0.mk hlw; have HI2 := Aside0.mk (HI.out.below hb); have HW := Aside0.mk (show RcR w w1 (.slice Aw ws.length cw) ws from .inr (Kd.R_lower hr HI.out.1.size)); clear HI hr hb hlw; obtain ⟨adw, edw, hxw⟩ := Kd.at_string hCw (z : Int) HZ.out.1 HZ.out.2.1; cases edw; rw [HLA.out] at hxw; have hxw1 : w1.cell? (adw.add z) = some (.string la) := hxw; clear hCw; have hcc0 : w1.cell? ⟨gc, 0, none⟩ = some (.slice A0 l0.length c0) := (blk_cell HI2.out.2.2.2.2.1 0).trans rfl; have hcc1 : w1.cell? ⟨gc, 1, none⟩ = some (.slice A1 l1.length c1) := (blk_cell HI2.out.2.2.2.2.1 1).trans rfl; obtain ⟨iS, hiS, _, hzS, _⟩ := info_parts info9; obtain ⟨hcut0, hcq, hcc⟩ := print_take_of (P := Tryz.prog) Value.string (⟨#[]⟩ : ByteArray) 23 9 .i64 Tryz.underlying23 hiS hzS (some adw) cw ws (z : Int) HZ.out.1 HZ.out.2.2.1 HLW.out; rw [show ((z : Int)).toNat = z from rfl, hzt] at hcut0; clear hcq hcc hiS hzS) | ((with_reducible refine gate_store (t := 39) (p := 4) rfl ?_); refine ra_store ?a1 ?a2 39 (.tmp 4) (.tmp 34) ?a3 ge #[.slice none 0 0, .slice none 0 0] ?a4 ?a5 39 #[.slice none 0 0, .slice none 0 0] HI2.out.2.2.2.2.2.1 ?a6 ?a7 ?a8 ?_; (case a1 => rfl); (case a2 => rfl); (case a3 => rfl); (case a4 => rfl); (case a5 => rfl); (case a6 => rfl); (case a7 => rfl); (case a8 => exact Qo0_); intro wz hs1 hs2 hs3; have HS1 := Aside0.mk hs1; have HS2 := Aside0.mk hs2; have HS3 := Aside0.mk (hs3 _ _ HI2.out.1 HI2.out.2.2.1); skip; clear hs1 hs2 hs3))
  refine bodyPost_ret (rc_results rfl _ _ ge 39 #[.slice none 0 0, .slice none 0 0] (0, 0) _ _ _ rfl HS1.out Tryz.underlying39 rfl Qi0_ rfl rfl) rfl ?_; exact ⟨.slice none 0 0, .slice none 0 0, rfl, rc_nil _ _ _, rc_nil _ _ _, HS3.out⟩
 rw [if_pos e3] at h
 have e3b0 : (la.toList == ([] : List UInt8)) = true := beq_iff_eq.mpr e3
 have e3b1 : (la.toList != ([] : List UInt8)) = false := bne_eq_false_iff_eq.mpr e3
 clear e3
 obtain ⟨t, B1, h⟩ := Option.bind_eq_some_iff.mp h
 have B1_ := Aside0.mk B1
 clear B1
 cases t with
 | false =>
  rw [if_neg (fun h_ => Bool.false_ne_true h_)] at h
  simp only [Option.some.injEq, Prod.mk.injEq] at h
  obtain ⟨rfl, rfl, rfl, rfl⟩ := h
  go_enter Tryz.func18, Tryz.ntmps18
  go_wp2_with (first | ((with_reducible refine gate_dst (N := 2) rfl ?_); (try (refine gate_guard (by rfl) ?_; dsimp only)); refine box_event ?hg (N := 2) ?hd (cs := #[.slice A0 l0.length c0, .slice A1 l1.length c1]) (t := 39) ?hr ?_; (case hd => rfl); (case hg => rfl); (case hr => exact Qh0_); intro gc hggc wgc hbox hb; have n0_ := Aside0.mk (below_step Qa0_ hb); have HGC := Aside0.mk (show w.heap.size ≤ gc by omega); have n1_ := Aside0.mk (hbox); clear HB; have HB := n0_; have BKgc := n1_; clear n0_ n1_; clear hb hbox hggc) | ((with_reducible refine gate_dst (N := 4) rfl ?_); (try (refine gate_guard (by rfl) ?_; dsimp only)); refine box_event ?hg (N := 4) ?hd (cs := #[.slice none 0 0, .slice none 0 0]) (t := 39) ?hr ?_; (case hd => rfl); (case hg => rfl); (case hr => exact Qh0_); intro ge hgge wge hbox hb; have n0_ := Aside0.mk (below_step Qa0_ hb); have BKC2 := Aside0.mk ((hb.block gc (ra_blt BKgc.out)).trans BKgc.out); have HNE := Aside0.mk (show gc ≠ ge from fun e_ => by have := ra_blt BKgc.out; omega); have HGE := Aside0.mk (show w.heap.size ≤ ge by have := HB.out.size; omega); have n1_ := Aside0.mk (hbox); clear HB; have HB := n0_; have BKge := n1_; clear n0_ n1_; clear hb hbox hgge; have HI := Aside0.mk (show RcI w wge gc ge (.slice A0 l0.length c0) (.slice A1 l1.length c1) l0 l1 from ⟨HB.out, HGC.out, HGE.out, HNE.out, BKC2.out, BKge.out, .inl ⟨A0, c0, rfl, HR0.out, HC0.out⟩, .inl ⟨A1, c1, rfl, HR1.out, HC1.out⟩⟩); clear HGC HGE HNE BKC2 BKgc BKge; have hcc0 : wge.cell? ⟨gc, 0, none⟩ = some (.slice A0 l0.length c0) := (blk_cell HI.out.2.2.2.2.1 0).trans rfl; have hcc1 : wge.cell? ⟨gc, 1, none⟩ = some (.slice A1 l1.length c1) := (blk_cell HI.out.2.2.2.2.1 1).trans rfl) | (go_at_call 53; (with_reducible refine (strings_Split.calls line (⟨#[10]⟩ : ByteArray) ws _ B0_.out).mono ?_); rintro e w1 ⟨vw, rfl, hr, hb⟩; obtain ⟨Aw, cw, ew, hlw, hCw⟩ := Kd.R_reads hr; subst ew; have HLW := Aside0.mk hlw; have HI2 := Aside0.mk (HI.out.below hb); have HW := Aside0.mk (show RcR w w1 (.slice Aw ws.length cw) ws from .inr (Kd.R_lower hr HI.out.1.size)); clear HI hr hb hlw; obtain ⟨adw, edw, hxw⟩ := Kd.at_string hCw (z : Int) HZ.out.1 HZ.out.2.1; cases edw; rw [HLA.out] at hxw; have hxw1 : w1.cell? (adw.add z) = some (.string la) := hxw; clear hCw; have hcc0 : w1.cell? ⟨gc, 0, none⟩ = some (.slice A0 l0.length c0) := (blk_cell HI2.out.2.2.2.2.1 0).trans rfl; have hcc1 : w1.cell? ⟨gc, 1, none⟩ = some (.slice A1 l1.length c1) := (blk_cell HI2.out.2.2.2.2.1 1).trans rfl; obtain ⟨iS, hiS, _, hzS, _⟩ := info_parts info9; obtain ⟨hcut0, hcq, hcc⟩ := print_take_of (P := Tryz.prog) Value.string (⟨#[]⟩ : ByteArray) 23 9 .i64 Tryz.underlying23 hiS hzS (some adw) cw ws (z : Int) HZ.out.1 HZ.out.2.2.1 HLW.out; rw [show ((z : Int)).toNat = z from rfl, hzt] at hcut0; clear hcq hcc hiS hzS) | (go_at_call 20; (with_reducible refine (impl_ValidConsole.calls k A0 c0 l0 A1 c1 l1 false _ ?s1 ?s2 ?s3 ?s4 B1_.out).mono ?_); (case s1 => exact Kd.C_below HR0.out HI2.out.1); (case s2 => exact HC0.out); (case s3 => exact Kd.C_below HR1.out HI2.out.1); (case s4 => exact HC1.out); rintro e w2 ⟨rfl, hb⟩; have HI3 := Aside0.mk (HI2.out.below hb); have HW3 := Aside0.mk (HW.out.below hb); have HB5 := Aside0.mk (Below.refl w2.heap.size w2); clear hb) | ((with_reducible refine gate_store (t := 39) (p := 4) rfl ?_); refine ra_store ?a1 ?a2 39 (.tmp 4) (.tmp 34) ?a3 ge #[.slice none 0 0, .slice none 0 0] ?a4 ?a5 39 #[.slice none 0 0, .slice none 0 0] HI3.out.2.2.2.2.2.1 ?a6 ?a7 ?a8 ?_; (case a1 => rfl); (case a2 => rfl); (case a3 => rfl); (case a4 => rfl); (case a5 => rfl); (case a6 => rfl); (case a7 => rfl); (case a8 => exact Qo0_); intro wz hs1 hs2 hs3; have HS1 := Aside0.mk hs1; have HS2 := Aside0.mk hs2; have HS3 := Aside0.mk (hs3 _ _ HI3.out.1 HI3.out.2.2.1); skip; clear hs1 hs2 hs3))
  refine bodyPost_ret (rc_results rfl _ _ ge 39 #[.slice none 0 0, .slice none 0 0] (0, 0) _ _ _ rfl HS1.out Tryz.underlying39 rfl Qi0_ rfl rfl) rfl ?_; exact ⟨.slice none 0 0, .slice none 0 0, rfl, rc_nil _ _ _, rc_nil _ _ _, HS3.out⟩
 | true =>
  rw [if_pos rfl] at h
  have H' := Aside0.mk h
  clear h
  go_enter Tryz.func18, Tryz.ntmps18
  go_wp2_with (first | ((with_reducible refine gate_dst (N := 2) rfl ?_); (try (refine gate_guard (by rfl) ?_; dsimp only)); refine box_event ?hg (N := 2) ?hd (cs := #[.slice A0 l0.length c0, .slice A1 l1.length c1]) (t := 39) ?hr ?_; (case hd => rfl); (case hg => rfl); (case hr => exact Qh0_); intro gc hggc wgc hbox hb; have n0_ := Aside0.mk (below_step Qa0_ hb); have HGC := Aside0.mk (show w.heap.size ≤ gc by omega); have n1_ := Aside0.mk (hbox); clear HB; have HB := n0_; have BKgc := n1_; clear n0_ n1_; clear hb hbox hggc) | ((with_reducible refine gate_dst (N := 4) rfl ?_); (try (refine gate_guard (by rfl) ?_; dsimp only)); refine box_event ?hg (N := 4) ?hd (cs := #[.slice none 0 0, .slice none 0 0]) (t := 39) ?hr ?_; (case hd => rfl); (case hg => rfl); (case hr => exact Qh0_); intro ge hgge wge hbox hb; have n0_ := Aside0.mk (below_step Qa0_ hb); have BKC2 := Aside0.mk ((hb.block gc (ra_blt BKgc.out)).trans BKgc.out); have HNE := Aside0.mk (show gc ≠ ge from fun e_ => by have := ra_blt BKgc.out; omega); have HGE := Aside0.mk (show w.heap.size ≤ ge by have := HB.out.size; omega); have n1_ := Aside0.mk (hbox); clear HB; have HB := n0_; have BKge := n1_; clear n0_ n1_; clear hb hbox hgge; have HI := Aside0.mk (show RcI w wge gc ge (.slice A0 l0.length c0) (.slice A1 l1.length c1) l0 l1 from ⟨HB.out, HGC.out, HGE.out, HNE.out, BKC2.out, BKge.out, .inl ⟨A0, c0, rfl, HR0.out, HC0.out⟩, .inl ⟨A1, c1, rfl, HR1.out, HC1.out⟩⟩); clear HGC HGE HNE BKC2 BKgc BKge; have hcc0 : wge.cell? ⟨gc, 0, none⟩ = some (.slice A0 l0.length c0) := (blk_cell HI.out.2.2.2.2.1 0).trans rfl; have hcc1 : wge.cell? ⟨gc, 1, none⟩ = some (.slice A1 l1.length c1) := (blk_cell HI.out.2.2.2.2.1 1).trans rfl) | (go_at_call 53; (with_reducible refine (strings_Split.calls line (⟨#[10]⟩ : ByteArray) ws _ B0_.out).mono ?_); rintro e w1 ⟨vw, rfl, hr, hb⟩; obtain ⟨Aw, cw, ew, hlw, hCw⟩ := Kd.R_reads hr; subst ew; have HLW := Aside0.mk hlw; have HI2 := Aside0.mk (HI.out.below hb); have HW := Aside0.mk (show RcR w w1 (.slice Aw ws.length cw) ws from .inr (Kd.R_lower hr HI.out.1.size)); clear HI hr hb hlw; obtain ⟨adw, edw, hxw⟩ := Kd.at_string hCw (z : Int) HZ.out.1 HZ.out.2.1; cases edw; rw [HLA.out] at hxw; have hxw1 : w1.cell? (adw.add z) = some (.string la) := hxw; clear hCw; have hcc0 : w1.cell? ⟨gc, 0, none⟩ = some (.slice A0 l0.length c0) := (blk_cell HI2.out.2.2.2.2.1 0).trans rfl; have hcc1 : w1.cell? ⟨gc, 1, none⟩ = some (.slice A1 l1.length c1) := (blk_cell HI2.out.2.2.2.2.1 1).trans rfl; obtain ⟨iS, hiS, _, hzS, _⟩ := info_parts info9; obtain ⟨hcut0, hcq, hcc⟩ := print_take_of (P := Tryz.prog) Value.string (⟨#[]⟩ : ByteArray) 23 9 .i64 Tryz.underlying23 hiS hzS (some adw) cw ws (z : Int) HZ.out.1 HZ.out.2.2.1 HLW.out; rw [show ((z : Int)).toNat = z from rfl, hzt] at hcut0; clear hcq hcc hiS hzS) | (go_at_call 20; (with_reducible refine (impl_ValidConsole.calls k A0 c0 l0 A1 c1 l1 true _ ?s1 ?s2 ?s3 ?s4 B1_.out).mono ?_); (case s1 => exact Kd.C_below HR0.out HI2.out.1); (case s2 => exact HC0.out); (case s3 => exact Kd.C_below HR1.out HI2.out.1); (case s4 => exact HC1.out); rintro e w2 ⟨rfl, hb⟩; have HI3 := Aside0.mk (HI2.out.below hb); have HW3 := Aside0.mk (HW.out.below hb); have HB5 := Aside0.mk (Below.refl w2.heap.size w2); clear hb) | ((with_reducible refine gate_dst (N := 9) rfl ?_); (try (refine gate_guard (by rfl) ?_; dsimp only)); refine box_event ?hg (N := 9) ?hd (cs := #[.pointer none, .slice none 0 0]) (t := 68) ?hr ?_; (case hd => rfl); (case hg => rfl); (case hr => exact Qh0_); intro gb hggb w4 hbox hb; have n0_ := Aside0.mk (below_step (by repeat (first | (with_reducible first | exact HB5.out | apply below_alloc | apply pw_below_drewN | apply below_drew1) | exact HB5.out)) hb); have HG9 := Aside0.mk hggb; have n1_ := Aside0.mk (hbox); clear HB5; have HB5 := n0_; have BKgb := n1_; clear n0_ n1_; clear hb hbox hggb) | ((with_reducible refine gate_store (t := 68) (p := 9) rfl ?_); refine ra_store ?b1 ?b2 68 (.tmp 9) (.tmp 35) ?b3 gb #[.pointer none, .slice none 0 0] ?b4 ?b5 68 #[.pointer none, .slice none 0 0] BKgb.out ?b6 ?b7 ?b8 ?_; (case b1 => rfl); (case b2 => rfl); (case b3 => rfl); (case b4 => rfl); (case b5 => rfl); (case b6 => rfl); (case b7 => rfl); (case b8 => exact Qo0_); intro w5 hs1 hs2 hs3; have HB6 := Aside0.mk (hs3 _ _ HB5.out (Nat.le_of_eq HG9.out.symm)); have HI5 := Aside0.mk (show RnI w w5 gc ge gb (.slice A0 l0.length c0) (.slice A1 l1.length c1) l0 l1 (.slice (some adw) ws.length cw) ws (⟨#[]⟩ : ByteArray) from ⟨HI3.out.below HB6.out, HW3.out.below HB6.out, .inl (Lib.BuilderAtF.of ⟨Nat.le_trans HI3.out.1.size (Nat.le_of_eq HG9.out.symm), _, hs1, World.ownsRow_nil _ _ _ _, by simp [Value.ownBlock]⟩)⟩); clear hs1 hs2 hs3))
  go_loopg [40] k (fun kq v40 w' => ∃ (i : Int) (n0 n1 : List ByteArray) (v0 v1 : Value) (out : ByteArray), v40 = .int .i64 i ∧ Aside0 (impl_RunConsole.l0 kq ws (z : Int) i n0 n1 out = some (r0, r1, r2, r3)) ∧ Aside0 (kq ≤ k) ∧ Aside0 (RnI w w' gc ge gb v0 v1 n0 n1 (.slice (some adw) ws.length cw) ws out))
  case atStart => exact ⟨0, _, _, _, _, _, rfl, H', ⟨Nat.le_refl _⟩, ⟨HI5.out⟩⟩
  case round =>
   clear H' HI5
   obtain ⟨i, n0, n1, v0, v1, out, rfl, HA, HK1, HI⟩ := hrel
   cases gk with
   | zero => exact absurd HA.out (by simp [impl_RunConsole.l0])
   | succ k1 =>
    have H := HA.out
    clear HA
    simp only [impl_RunConsole.l0] at H
    obtain ⟨A2, c2, ev0, hC2, hl2⟩ := HI.out.1.2.2.2.2.2.2.1.reads HI.out.1.1
    obtain ⟨A3, c3, ev1, hC3, hl3⟩ := HI.out.1.2.2.2.2.2.2.2.reads HI.out.1.1
    subst ev0
    subst ev1
    have HR2 := Aside0.mk hC2
    have HC2 := Aside0.mk hl2
    have HR3 := Aside0.mk hC3
    have HC3 := Aside0.mk hl3
    clear hC2 hl2 hC3 hl3
    have hcc0 : wr.cell? ⟨gc, 0, none⟩ = some (.slice A2 n0.length c2) := (blk_cell HI.out.1.2.2.2.2.1 0).trans rfl
    have hcc1 : wr.cell? ⟨gc, 1, none⟩ = some (.slice A3 n1.length c3) := (blk_cell HI.out.1.2.2.2.2.1 1).trans rfl
    by_cases d1 : i < (z : Int)
    rotate_left
    ·rw [if_neg d1] at H
     have d1b0 : decide (i < (z : Int)) = false := decide_eq_false d1
     clear d1
     obtain ⟨⟨m0, m1⟩, B3, H⟩ := Option.bind_eq_some_iff.mp H
     simp only [Option.some.injEq, Prod.mk.injEq] at H
     obtain ⟨rfl, rfl, rfl, rfl⟩ := H
     have B3_ := Aside0.mk B3
     clear B3
     go_wp2_with (first | (go_at_call 56; (with_reducible refine (impl_copyConsole.calls A2 c2 n0 A3 c3 n1 m0 m1 _ ?p1 ?p2 ?p3 ?p4 B3_.out).mono ?_); (case p1 => exact HR2.out); (case p2 => exact HC2.out); (case p3 => exact HR3.out); (case p4 => exact HC3.out); rintro e w6 ⟨x0, x1, rfl, hr0, hr1, hb⟩; obtain ⟨Ax, cx, ex⟩ := Kd.R_slice hr0; subst ex; obtain ⟨Ay, cy, ey⟩ := Kd.R_slice hr1; subst ey; have HX0 := Aside0.mk hr0; have HX1 := Aside0.mk hr1; have HI6 := Aside0.mk (HI.out.below hb); have HX2 := Aside0.mk HI.out.1.1.size; clear hr0 hr1 hb) | (go_at_call 57; refine (rn_string_k w.heap.size gb out.data.toList _ ?u1 ?u2).mono ?_; (case u1 => exact HI6.out.2.2); (case u2 => exact HI6.out.1.1.size); rintro e w7 ⟨rfl, hn, hb, ho⟩; obtain ⟨cB_, hcB_⟩ := rn_block HI6.out.2.2; have HY0 := Aside0.mk (rc_row HX0.out (fun k_ c_ h_ => rn_far ho hcB_ h_ (by decide) (by decide))); have HY1 := Aside0.mk (rc_row HX1.out (fun k_ c_ h_ => rn_far ho hcB_ h_ (by decide) (by decide))); have HJ7 := Aside0.mk (HI6.out.kept hb ho hn).1; clear hn hb ho hcB_) | ((with_reducible refine gate_store (t := 39) (p := 4) rfl ?_); refine ra_store ?e1 ?e2 39 (.tmp 4) (.tmp 56) ?e3 ge #[.slice Ax m0.length cx, .slice Ay m1.length cy] ?e4 ?e5 39 #[.slice none 0 0, .slice none 0 0] HJ7.out.2.2.2.2.2.1 ?e6 ?e7 ?e8 ?_; (case e1 => rfl); (case e2 => rfl); (case e3 => rfl); (case e4 => rfl); (case e5 => rfl); (case e6 => rfl); (case e7 => rfl); (case e8 => exact Qo0_); intro wz hs1 hs2 hs3; have HS1 := Aside0.mk hs1; have HS2 := Aside0.mk hs2; have HS3 := Aside0.mk (hs3 _ _ HJ7.out.1 HJ7.out.2.2.1); skip; clear hs1 hs2 hs3))
     refine bodyPost_ret (rc_results rfl _ _ ge 39 #[.slice Ax m0.length cx, .slice Ay m1.length cy] (0, 0) _ _ _ rfl HS1.out Tryz.underlying39 rfl Qi0_ rfl rfl) rfl ?_; exact ⟨.slice Ax m0.length cx, .slice Ay m1.length cy, Qc0_, Kd.R_lower (rc_row HY0.out (fun k_ c_ h_ => HS2.out k_ (blk_ne h_ HJ7.out.2.2.2.2.2.1 (by decide)))) HX2.out, Kd.R_lower (rc_row HY1.out (fun k_ c_ h_ => HS2.out k_ (blk_ne h_ HJ7.out.2.2.2.2.2.1 (by decide)))) HX2.out, HS3.out⟩
    rw [if_pos d1] at H
    by_cases d2 : 0 ≤ i
    rotate_left
    ·rw [if_neg d2] at H
     cases H
    rw [if_pos d2] at H
    obtain ⟨li, hli⟩ : ∃ y : ByteArray, rdOf ByteArray.empty ws i = y := ⟨_, rfl⟩
    rw [hli] at H
    obtain ⟨⟨t0, t1, tx⟩, B2, H⟩ := Option.bind_eq_some_iff.mp H
    have B2_ := Aside0.mk B2
    clear B2
    by_cases d3 : out.size + tx.size + 1 ≤ 140737488355328
    rotate_left
    ·rw [if_neg d3] at H
     cases H
    rw [if_pos d3] at H
    have H' := Aside0.mk H
    have HS := Aside0.mk d3
    have f1 : (9223372036854775807 < tx.size + 1) = False := eq_false (by omega)
    obtain ⟨ad2, ed2, hy2⟩ := Kd.at_string (HI.out.2.1.readC HI.out.1.1) i d2 (by have := HZ.out; omega)
    rw [← Option.some.inj ed2, hli] at hy2
    clear ed2 hli H d3
    have d1b0 : decide (i < (z : Int)) = true := decide_eq_true d1
    have q1 := eq_true d1
    have p1 := eq_true d2
    clear d1 d2
    go_wp2_with (first | (go_at_call 54; (with_reducible refine (impl_command.calls k1 A2 c2 n0 A3 c3 n1 li t0 t1 tx _ ?q1 ?q2 ?q3 ?q4 ?q5 B2_.out).mono ?_); (case q1 => exact HR2.out); (case q2 => exact HC2.out); (case q3 => exact HR3.out); (case q4 => exact HC3.out); (case q5 => exact tabBelow HT.out HI.out.1.1); rintro e w3 ⟨va, vb, rfl, hab, hb⟩; have hrr := RcI.come HI.out.1 hb hab; have HI3 := Aside0.mk (HI.out.below hb); obtain ⟨Aa, ca, ea, hCa, hla⟩ := hrr.1.reads HI3.out.1.1; subst ea; obtain ⟨Ab, cb, eb, hCb, hlb⟩ := hrr.2.reads HI3.out.1.1; subst eb; have HRR := Aside0.mk hrr; have HB3 := Aside0.mk (Below.refl w3.heap.size w3); clear hrr hla hlb hCa hCb hab hb) | ((with_reducible refine gate_dst (N := 12) rfl ?_); (try (refine gate_guard (by rfl) ?_; dsimp only)); refine box_event ?hg (N := 12) ?hd (cs := #[.slice none 0 0, .slice none 0 0]) (t := 39) ?hr ?_; (case hd => rfl); (case hg => rfl); (case hr => exact Qh0_); intro g12 hgg12 w4 hbox hb; have n0_ := Aside0.mk (below_step (by repeat (first | (with_reducible first | exact HB3.out | apply below_alloc | apply pw_below_drewN | apply below_drew1) | exact HB3.out)) hb); have HG12 := Aside0.mk hgg12; have n1_ := Aside0.mk (hbox); clear HB3; have HB3 := n0_; have BKg12 := n1_; clear n0_ n1_; clear hb hbox hgg12) | ((with_reducible refine gate_store (t := 39) (p := 12) rfl ?_); refine ra_store ?b1 ?b2 39 (.tmp 12) (.tmp 48) ?b3 g12 #[.slice Aa t0.length ca, .slice Ab t1.length cb] ?b4 ?b5 39 #[.slice none 0 0, .slice none 0 0] BKg12.out ?b6 ?b7 ?b8 ?_; (case b1 => rfl); (case b2 => rfl); (case b3 => rfl); (case b4 => rfl); (case b5 => rfl); (case b6 => rfl); (case b7 => rfl); (case b8 => exact Qo0_); intro w5 hs1 hs2 hs3; have HB5 := Aside0.mk (hs3 _ _ HB3.out (Nat.le_of_eq HG12.out.symm)); have HI5 := Aside0.mk (HI3.out.below HB5.out); have HRA := Aside0.mk (HRR.out.1.below HB5.out); have HRB := Aside0.mk (HRR.out.2.below HB5.out); have hcd0 : w5.cell? ⟨g12, 0, none⟩ = some (.slice Aa t0.length ca) := (blk_cell hs1 0).trans rfl; have hcd1 : w5.cell? ⟨g12, 1, none⟩ = some (.slice Ab t1.length cb) := (blk_cell hs1 1).trans rfl; clear hs1 hs2 hs3) | ((with_reducible refine gate_store (t := 39) (p := 2) rfl ?_); refine ra_store ?d1 ?d2 39 (.tmp 2) (.tmp 50) ?d3 gc #[.slice Aa t0.length ca, .slice Ab t1.length cb] ?d4 ?d5 39 #[.slice A2 n0.length c2, .slice A3 n1.length c3] HI5.out.1.2.2.2.2.1 ?d6 ?d7 ?d8 ?_; (case d1 => rfl); (case d2 => rfl); (case d3 => rfl); (case d4 => rfl); (case d5 => rfl); (case d6 => rfl); (case d7 => rfl); (case d8 => exact Qo0_); intro w6 hs1 hs2 hs3; have HI6 := Aside0.mk (HI5.out.set HRA.out HRB.out hs1 hs2 hs3); clear hs1 hs2 hs3) | (go_at_call 55; refine (rn_write_k w.heap.size gb (Lib.byteCells out.data.toList) (tx ++ (⟨#[10]⟩ : ByteArray)) _ ?u1 ?u2 ?u3).mono ?_; (case u1 => exact HI6.out.2.2); (case u2 => rw [rn_len out, ByteArray.size_append]; have h_ := HS.out; exact (show out.size + (tx.size + 1) ≤ 140737488355328 by omega)); (case u3 => exact HI6.out.1.1.size); rintro e w7 ⟨rfl, hbu, hb, ho⟩; have HI7 := Aside0.mk (HI6.out.write hb ho hbu); clear hbu hb ho))
    go_roundg k1
    case measure => have := HK1.out; omega
    case rel => exact ⟨wrap64 (i + 1), t0, t1, _, _, out ++ (tx ++ (⟨#[10]⟩ : ByteArray)), Qc1_, H', ⟨Qp0_⟩, ⟨HI7.out⟩⟩
def spec_RunConsole.f (k : Nat) (l0 l1 : List ByteArray) (line : ByteArray) : Option (List ByteArray × List ByteArray × ByteArray × Bool) := none
theorem spec_RunConsole.calls (k : Nat) (A0 : Option Addr) (c0 : Nat) (l0 : List ByteArray) (A1 : Option Addr) (c1 : Nat) (l1 : List ByteArray) (line : ByteArray) (r0 r1 : List ByteArray) (r2 : ByteArray) (r3 : Bool) (w : World) (hr0 : Kd.C Kd.string w A0 l0.length l0) (hc0 : l0.length ≤ c0) (hr1 : Kd.C Kd.string w A1 l1.length l1) (hc1 : l1.length ≤ c1) (h : spec_RunConsole.f k l0 l1 line = some (r0, r1, r2, r3)) :
 Calls Tryz.prog 19 #[.agg #[.slice A0 l0.length c0, .slice A1 l1.length c1], .string line] w fun e w' => ∃ v0_ v1_ : Value, e = .returned (.tuple #[.agg #[v0_, v1_], .string r2, .bool r3]) ∧ Kd.R Kd.string 9 w' w.heap.size (fun k_ => some k_ ≠ (v1_ : Value).ownBlock) v0_ r0 ∧ Kd.R Kd.string 9 w' w.heap.size (fun k_ => some k_ ≠ (v0_ : Value).ownBlock) v1_ r1 ∧ Below w.heap.size w w' :=
 absurd h (by simp [spec_RunConsole.f])
end Go.Proofs.YtbjmbfjbjkhhdaaGreatDoor.QFnTopOfAll
