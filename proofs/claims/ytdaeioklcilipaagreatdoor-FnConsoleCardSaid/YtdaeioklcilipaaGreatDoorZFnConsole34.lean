/- Made small by wip/pack.py: lemmas and contracts that the law's row leans on. -/
import Derived.Test.YtdaeioklcilipaaGreatDoorZFnConsole27
import Derived.Test.YtdaeioklcilipaaGreatDoorZFnConsole32
import Derived.Test.YtdaeioklcilipaaGreatDoorZFnConsole33
namespace Go.Proofs.YtdaeioklcilipaaGreatDoor.QFnConsole
open Go.RowKit Go.Proofs.YtdaeioklcilipaaGreatDoorW.PrintWords Go.Proofs.YtdaeioklcilipaaGreatDoorW.PrintLast Go.Proofs.YtdaeioklcilipaaGreatDoorW.PrintMore
attribute [local go_sem] max2_int min2_int max_two min_two max_three min_three max_four min_four
set_option linter.unusedVariables false
set_option linter.unusedSimpArgs false
theorem ra_row {w w1 : World} {base : Nat} {v : Value} {xs : List Int} (h : Kd.R (Kd.int .i64) 2 w base (fun _ => True) v xs) (hm : ∀ k, v.ownBlock = some k → w1.heap[k]? = w.heap[k]?) : Kd.R (Kd.int .i64) 2 w1 base (fun _ => True) v xs :=
 Kd.R_of_own (own_move (Kd.own_of_R h) hm) (fun _ _ => trivial)
theorem ra_lt {w : World} {base : Nat} {v : Value} {xs : List Int} (h : Kd.R (Kd.int .i64) 2 w base (fun _ => True) v xs) : ∀ k, v.ownBlock = some k → k < w.heap.size := fun k hk => own_lt (Kd.own_of_R h) k hk
theorem ra_base {w : World} {base : Nat} {v : Value} {xs : List Int} (h : Kd.R (Kd.int .i64) 2 w base (fun _ => True) v xs) : ∀ k, v.ownBlock = some k → base ≤ k := fun k hk => own_base (Kd.own_of_R h) k hk
theorem ra_ne {w : World} {base b t : Nat} {v : Value} {xs : List Int} {cells : Array Value} (h : Kd.R (Kd.int .i64) 2 w base (fun _ => True) v xs) (hb : w.heap[b]? = some (.cells cells t (0, 0))) (ht : 2 ≠ t) : v.ownBlock ≠ some b := fun e => Kd.R_ne h hb ht e.symm
theorem ra_blt {w : World} {g : Nat} {o : Obj} (h : w.heap[g]? = some o) : g < w.heap.size := by
 rcases Nat.lt_or_ge g w.heap.size with h6 | h6
 ·exact h6
 ·rw [Array.getElem?_eq_none h6] at h
  cases h
theorem ra_nil (w : World) (base : Nat) : Kd.R (Kd.int .i64) 2 w base (fun _ => True) (.slice none 0 0) ([] : List Int) := Kd.R_of_own ⟨rfl, .inl ⟨rfl, rfl⟩⟩ (fun _ _ => trivial)
def raAt (w : World) (base g : Nat) (fr : ByteArray) (p : Int) (bi : ByteArray) (vn vl : Value) (n li : List Int) : Prop :=
 base ≤ g ∧ w.heap[g]? = some (.cells #[.string fr, .int .i64 p, .string bi, vn, vl] 67 (0, 0)) ∧ Kd.R (Kd.int .i64) 2 w base (fun _ => True) vn n ∧ Kd.R (Kd.int .i64) 2 w base (fun _ => True) vl li ∧ ∀ k, vn.ownBlock = some k → vl.ownBlock ≠ some k
def RaI (w w' : World) (e g : Nat) (fr : ByteArray) (p : Int) (bi : ByteArray) (vn vl : Value) (n li : List Int) : Prop :=
 Below w.heap.size w w' ∧ raAt w' w.heap.size g fr p bi vn vl n li ∧ w.heap.size ≤ e ∧ w'.heap[e]? = some (.cells #[.string (⟨#[]⟩ : ByteArray), .int .i64 0, .string (⟨#[]⟩ : ByteArray), .slice none 0 0, .slice none 0 0] 67 (0, 0)) ∧ e ≠ g
theorem ra_below {w w1 w2 : World} {e g : Nat} {fr bi : ByteArray} {p : Int} {vn vl : Value} {n li : List Int} (h : RaI w w1 e g fr p bi vn vl n li) (hb : Below w1.heap.size w1 w2) : RaI w w2 e g fr p bi vn vl n li := by
 obtain ⟨h1, ⟨h2, h3, h4, h5, h6⟩, h7, h8, h9⟩ := h
 exact ⟨below_step h1 hb, ⟨h2, (hb.block g (ra_blt h3)).trans h3, ra_row h4 (fun k hk => hb.block k (ra_lt h4 k hk)), ra_row h5 (fun k hk => hb.block k (ra_lt h5 k hk)), h6⟩, h7, (hb.block e (ra_blt h8)).trans h8, h9⟩
theorem ra_draw {w w1 : World} {e g : Nat} {fr bi : ByteArray} {p : Int} {vn vl : Value} {n li : List Int} (h : RaI w w1 e g fr p bi vn vl n li) (m : Nat) : RaI w (w1.drewN m) e g fr p bi vn vl n li := ra_below h (pw_below_drewN (Below.refl _ _) m)
theorem ra_s0 {w w1 w2 : World} {e g : Nat} {fr bi : ByteArray} {p : Int} {vn vl : Value} {n li : List Int} (h : RaI w w1 e g fr p bi vn vl n li) (x : ByteArray) (hw : w2 = w1.setCell ⟨g, 0, none⟩ (.string x)) : RaI w w2 e g x p bi vn vl n li := by
 obtain ⟨h1, ⟨h2, h3, h4, h5, h6⟩, h7, h8, h9⟩ := h
 have hk : ∀ k, k ≠ g → w2.heap[k]? = w1.heap[k]? := fun k hk => by rw [hw]; exact Below.heap_setCell _ _ _ k hk
 exact ⟨by rw [hw]; exact h1.setCell h2 _, ⟨h2, by rw [hw]; exact blk_put h3 0 _ rfl, ra_row h4 (fun k hk1 => hk k (fun e1 => ra_ne h4 h3 (by decide) (e1 ▸ hk1))), ra_row h5 (fun k hk1 => hk k (fun e1 => ra_ne h5 h3 (by decide) (e1 ▸ hk1))), h6⟩, h7, (hk e h9).trans h8, h9⟩
theorem ra_s1 {w w1 w2 : World} {e g : Nat} {fr bi : ByteArray} {p : Int} {vn vl : Value} {n li : List Int} (h : RaI w w1 e g fr p bi vn vl n li) (x : Int) (hw : w2 = w1.setCell ⟨g, 1, none⟩ (.int .i64 x)) : RaI w w2 e g fr x bi vn vl n li := by
 obtain ⟨h1, ⟨h2, h3, h4, h5, h6⟩, h7, h8, h9⟩ := h
 have hk : ∀ k, k ≠ g → w2.heap[k]? = w1.heap[k]? := fun k hk => by rw [hw]; exact Below.heap_setCell _ _ _ k hk
 exact ⟨by rw [hw]; exact h1.setCell h2 _, ⟨h2, by rw [hw]; exact blk_put h3 1 _ rfl, ra_row h4 (fun k hk1 => hk k (fun e1 => ra_ne h4 h3 (by decide) (e1 ▸ hk1))), ra_row h5 (fun k hk1 => hk k (fun e1 => ra_ne h5 h3 (by decide) (e1 ▸ hk1))), h6⟩, h7, (hk e h9).trans h8, h9⟩
theorem ra_s2 {w w1 w2 : World} {e g : Nat} {fr bi : ByteArray} {p : Int} {vn vl : Value} {n li : List Int} (h : RaI w w1 e g fr p bi vn vl n li) (x : ByteArray) (hw : w2 = w1.setCell ⟨g, 2, none⟩ (.string x)) : RaI w w2 e g fr p x vn vl n li := by
 obtain ⟨h1, ⟨h2, h3, h4, h5, h6⟩, h7, h8, h9⟩ := h
 have hk : ∀ k, k ≠ g → w2.heap[k]? = w1.heap[k]? := fun k hk => by rw [hw]; exact Below.heap_setCell _ _ _ k hk
 exact ⟨by rw [hw]; exact h1.setCell h2 _, ⟨h2, by rw [hw]; exact blk_put h3 2 _ rfl, ra_row h4 (fun k hk1 => hk k (fun e1 => ra_ne h4 h3 (by decide) (e1 ▸ hk1))), ra_row h5 (fun k hk1 => hk k (fun e1 => ra_ne h5 h3 (by decide) (e1 ▸ hk1))), h6⟩, h7, (hk e h9).trans h8, h9⟩
theorem ra_s3 {w w1 w2 w3 : World} {e g : Nat} {fr bi : ByteArray} {p : Int} {vn vl vn' : Value} {n li n' : List Int} (h : RaI w w1 e g fr p bi vn vl n li) (ho : Kd.R (Kd.int .i64) 2 w2 w.heap.size (fun _ => True) vn' n') (hb : Below w.heap.size w w2) (hg : w1.grownBy w2 vn.ownBlock) (hat : vn'.ownBlock = vn.ownBlock ∨ ∃ b, vn'.ownBlock = some b ∧ w1.heap.size ≤ b) (hw : w3 = w2.setCell ⟨g, 3, none⟩ vn') : RaI w w3 e g fr p bi vn' vl n' li := by
 obtain ⟨h1, ⟨h2, h3, h4, h5, h6⟩, h7, h8, h9⟩ := h
 have hk : ∀ k, k ≠ g → w3.heap[k]? = w2.heap[k]? := fun k hk => by rw [hw]; exact Below.heap_setCell _ _ _ k hk
 have h3' := (hg.block g (ra_blt h3) (fun e1 => ra_ne h4 h3 (by decide) e1.symm)).trans h3
 have h8' := (hg.block e (ra_blt h8) (fun e1 => ra_ne h4 h8 (by decide) e1.symm)).trans h8
 have h5' : Kd.R (Kd.int .i64) 2 w2 w.heap.size (fun _ => True) vl li := ra_row h5 (fun k hk1 => hg.block k (ra_lt h5 k hk1) (fun e1 => h6 k e1.symm hk1))
 refine ⟨by rw [hw]; exact hb.setCell h2 _, ⟨h2, by rw [hw]; exact blk_put h3' 3 _ rfl, ra_row ho (fun k hk1 => hk k (fun e1 => ra_ne ho h3' (by decide) (e1 ▸ hk1))), ra_row h5' (fun k hk1 => hk k (fun e1 => ra_ne h5' h3' (by decide) (e1 ▸ hk1))), fun k hk1 hk2 => ?_⟩, h7, (hk e h9).trans h8', h9⟩
 rcases hat with h10 | ⟨b, h10, h11⟩
 ·exact h6 k (h10.symm.trans hk1) hk2
 ·rw [hk1] at h10
  cases h10
  have := ra_lt h5 k hk2
  omega
theorem ra_s4 {w w1 w2 w3 : World} {e g : Nat} {fr bi : ByteArray} {p : Int} {vn vl vl' : Value} {n li li' : List Int} (h : RaI w w1 e g fr p bi vn vl n li) (hb : Below w1.heap.size w1 w2) (ho : Kd.R (Kd.int .i64) 2 w2 w1.heap.size (fun _ => True) vl' li') (hw : w3 = w2.setCell ⟨g, 4, none⟩ vl') : RaI w w3 e g fr p bi vn vl' n li' := by
 have hl := fun k hk => ra_lt h.2.1.2.2.1 k hk
 obtain ⟨h1, ⟨h2, h3, h4, h5, h6⟩, h7, h8, h9⟩ := ra_below h hb
 have hk : ∀ k, k ≠ g → w3.heap[k]? = w2.heap[k]? := fun k hk => by rw [hw]; exact Below.heap_setCell _ _ _ k hk
 have ho' := Kd.R_lower ho h.1.size
 refine ⟨by rw [hw]; exact h1.setCell h2 _, ⟨h2, by rw [hw]; exact blk_put h3 4 _ rfl, ra_row h4 (fun k hk1 => hk k (fun e1 => ra_ne h4 h3 (by decide) (e1 ▸ hk1))), ra_row ho' (fun k hk1 => hk k (fun e1 => ra_ne ho' h3 (by decide) (e1 ▸ hk1))), fun k hk1 hk2 => ?_⟩, h7, (hk e h9).trans h8, h9⟩
 have := hl k hk1
 have := ra_base ho k hk2
 omega
theorem ra_all {w w' : World} {e g : Nat} {fr bi : ByteArray} {p : Int} {vn vl : Value} {n li : List Int} (h : RaI w w' e g fr p bi vn vl n li) : (#[Value.string fr, .int .i64 p, .string bi, vn, vl] : Array Value).all (·.oneCell') = true := by
 obtain ⟨A3, c3, e3⟩ := Kd.R_slice h.2.1.2.2.1
 obtain ⟨A4, c4, e4⟩ := Kd.R_slice h.2.1.2.2.2.1
 rw [e3, e4]
 simp [Value.oneCell']
theorem ra_results {P : Program} {fn : Func} {p u : Tmp} {ty : TypeId} (h : fn.results = #[.cell p ty, .tmp u]) (tmps : Array Value) (w : World) (g : Nat) (t : TypeId) (cs : Array Value) (fr : Nat × Nat) (d : TypeDesc) (v : Value)
 (hp : tmps.getD p undef = .pointer (some ⟨g, 0, none⟩)) (hg : w.heap[g]? = some (.cells cs t fr))
 (hu : P.underlying ty = some d) (hd : (match d with | .struct _ | .array _ _ => true | _ => false) = true) (hi : (P.info? ty).map (·.size) = some cs.size) (hv : tmps.getD u undef = v) :
 (results fn tmps).run P w = .ok (.tuple #[.agg cs, v]) w := by
 have hp' : tmps[p]?.getD undef = .pointer (some ⟨g, 0, none⟩) := by simpa using hp
 have hv' : tmps[u]?.getD undef = v := by simpa using hv
 simp [results, h, hp', hv', asAddr, run_loadVar_row w g t ty cs fr d hg hu hd hi]
section
variable {P : Program} {ops : Array Oper} {rest : List Oper} {o : Oper} {a : Act} {Q : Exit → Act → World → Prop}
theorem ra_store {W : World} (hgd : o.guard = none) (hN : o.dst = none) (ty : TypeId) (x y : Operand) (ho : o.op = .store ty x y)
 (g : Nat) (cells : Array Value) (hx : a.eval x = .pointer (some ⟨g, 0, none⟩)) (hy : a.eval y = .agg cells)
 (t : TypeId) (old : Array Value) (hg : W.heap[g]? = some (.cells old t (0, 0))) (hi : (P.info? ty).map (·.size) = some cells.size)
 (hold : old.size = cells.size) (h1 : cells.all (·.oneCell') = true)
 (h : ∀ w1, w1.heap[g]? = some (.cells cells t (0, 0)) → (∀ k, k ≠ g → w1.heap[k]? = W.heap[k]?) → (∀ B w0, Below B w0 W → B ≤ g → Below B w0 w1) → wpList P ops Q rest a w1) : wpList P ops Q (o :: rest) a W := by
 refine wpList_store_row hgd ty x y ho g cells hx hy t old hg hi hold h1 ?_
 rw [hN]
 exact h _ (setRow_heap W g old cells t (0, 0) hg) (fun k hk => setRow_other W g k cells hk) (fun B w0 hb hB => below_setRow hb hB cells)
end
def impl_Console_read.l0 : Nat → List ByteArray → List ByteArray → ByteArray → List ByteArray → Int → ByteArray → Int → ByteArray → List Int → List Int → Option (ByteArray × Int × ByteArray × List Int × List Int × Bool)
 | 0, _, _, _, _, _, _, _, _, _, _ => none
 | k + 1, ns, ls, fo, lw, i, fr, p, bi, n, li => if i < (lw.length : Int) then (if 0 ≤ i then (if i < (fo.size : Int) then (if bt fo i = 65 then ((slices_Index_string_string.f k ns (rdOf ByteArray.empty lw i)).bind fun t => (if t ≥ 0 then (if t < (ls.length : Int) then (impl_Console_read.l0 k ns ls fo lw (wrap64 (i + 1)) fr t (rdOf ByteArray.empty ls t) n li) else (none)) else (some ((⟨#[]⟩ : ByteArray), (0 : Int), (⟨#[]⟩ : ByteArray), ([] : List Int), ([] : List Int), false)))) else (if bt fo i = 87 then (impl_Console_read.l0 k ns ls fo lw (wrap64 (i + 1)) (rdOf ByteArray.empty lw i) p bi n li) else (if bt fo i = 66 then (if (rdOf ByteArray.empty lw i).toList = ([110, 111, 110, 101] : List UInt8) then (impl_Console_read.l0 k ns ls fo lw (wrap64 (i + 1)) fr p bi n li) else (if (rdOf ByteArray.empty lw i).toList = ([] : List UInt8) then (some ((⟨#[]⟩ : ByteArray), (0 : Int), (⟨#[]⟩ : ByteArray), ([] : List Int), ([] : List Int), false)) else ((impl_areBits.f (rdOf ByteArray.empty lw i)).bind fun t => (if t = true then (impl_Console_read.l0 k ns ls fo lw (wrap64 (i + 1)) fr p (rdOf ByteArray.empty lw i) n li) else (some ((⟨#[]⟩ : ByteArray), (0 : Int), (⟨#[]⟩ : ByteArray), ([] : List Int), ([] : List Int), false)))))) else (if bt fo i = 78 then ((impl_ReadDecimal.f (rdOf ByteArray.empty lw i)).bind fun t => (if n.length < 1000 then (if t.2 = true then (impl_Console_read.l0 k ns ls fo lw (wrap64 (i + 1)) fr p bi (n ++ [t.1]) li) else (some ((⟨#[]⟩ : ByteArray), (0 : Int), (⟨#[]⟩ : ByteArray), ([] : List Int), ([] : List Int), false))) else (none))) else (if bt fo i = 76 then ((impl_ReadList.f k (rdOf ByteArray.empty lw i)).bind fun t => (if t.2 = true then (impl_Console_read.l0 k ns ls fo lw (wrap64 (i + 1)) fr p bi n t.1) else (some ((⟨#[]⟩ : ByteArray), (0 : Int), (⟨#[]⟩ : ByteArray), ([] : List Int), ([] : List Int), false)))) else (impl_Console_read.l0 k ns ls fo lw (wrap64 (i + 1)) fr p bi n li)))))) else (none)) else (none)) else (some (fr, p, bi, n, li, true))
def impl_Console_read.f (k : Nat) (ns ls : List ByteArray) (fo : ByteArray) (lw : List ByteArray) : Option (ByteArray × Int × ByteArray × List Int × List Int × Bool) := impl_Console_read.l0 k ns ls fo lw 0 (⟨#[]⟩ : ByteArray) 0 (⟨#[]⟩ : ByteArray) [] []
set_option maxHeartbeats 8000000 in
set_option maxRecDepth 100000 in
theorem impl_Console_read.calls (k : Nat) (base b : Nat) (v0 v1 : Value) (ns ls : List ByteArray) (fo : ByteArray) (A2 : Option Addr) (c2 : Nat) (lw : List ByteArray) (rf : ByteArray) (rp : Int) (rb : ByteArray) (rn rl : List Int) (rok : Bool) (w : World) (hC : conAt w base b v0 v1 ns ls) (hr2 : Kd.C Kd.string w A2 lw.length lw) (hc2 : lw.length ≤ c2) (hT : LibW w) (h : impl_Console_read.f k ns ls fo lw = some (rf, rp, rb, rn, rl, rok)) :
 Calls Tryz.prog 31 #[.pointer (some ⟨b, 0, none⟩), .string fo, .slice A2 lw.length c2] w fun e w' => ∃ vn vl : Value, e = .returned (.tuple #[.agg #[.string rf, .int .i64 rp, .string rb, vn, vl], .bool rok]) ∧ Kd.R (Kd.int .i64) 2 w' w.heap.size (fun _ => True) vn rn ∧ Kd.R (Kd.int .i64) 2 w' w.heap.size (fun _ => True) vl rl ∧ Below w.heap.size w w' := by
 have hu26 := Tryz.underlying26
 have hu59 := Tryz.underlying67
 have HC := Aside0.mk hC
 have HR2 := Aside0.mk hr2
 have HC2 := Aside0.mk hc2
 have HT := Aside0.mk hT
 obtain ⟨A0, c0, A1, c1, rfl, rfl, hl0, hl1, hC0, hC1⟩ := con_slices hC
 have HL0 := Aside0.mk hl0
 have HC0 := Aside0.mk hC0
 have HC1 := Aside0.mk hC1
 have HB := Aside0.mk (Below.refl w.heap.size w)
 clear hC hr2 hc2 hT hl0 hl1 hC0 hC1
 have H' := Aside0.mk h
 clear h
 go_enter Tryz.func31, Tryz.ntmps31
 go_wp2_with (first | ((with_reducible refine gate_dst (N := 6) rfl ?_); (try (refine gate_guard (by rfl) ?_; dsimp only)); refine box_event ?hg (N := 6) ?hd (cs := #[.string (⟨#[]⟩ : ByteArray), .int .i64 0, .string (⟨#[]⟩ : ByteArray), .slice none 0 0, .slice none 0 0]) (t := 67) ?hr ?_; (case hd => rfl); (case hg => rfl); (case hr => exact Qj0_); intro ge hgge wge hbox hb; have n0_ := Aside0.mk (below_step Qa0_ hb); have HGE := Aside0.mk (show w.heap.size ≤ ge by omega); have n1_ := Aside0.mk (hbox); clear HB; have HB := n0_; have BKge := n1_; clear n0_ n1_; clear hb hbox hgge; have hczge0 : wge.cell? ⟨ge, 0, none⟩ = some (.string (⟨#[]⟩ : ByteArray)) := (blk_cell BKge.out 0).trans rfl; have hczge1 : wge.cell? ⟨ge, 1, none⟩ = some (.int .i64 0) := (blk_cell BKge.out 1).trans rfl; have hczge2 : wge.cell? ⟨ge, 2, none⟩ = some (.string (⟨#[]⟩ : ByteArray)) := (blk_cell BKge.out 2).trans rfl; have hczge3 : wge.cell? ⟨ge, 3, none⟩ = some (.slice none 0 0) := (blk_cell BKge.out 3).trans rfl; have hczge4 : wge.cell? ⟨ge, 4, none⟩ = some (.slice none 0 0) := (blk_cell BKge.out 4).trans rfl) | ((with_reducible refine gate_dst (N := 8) rfl ?_); (try (refine gate_guard (by rfl) ?_; dsimp only)); refine box_event ?hg (N := 8) ?hd (cs := #[.string (⟨#[]⟩ : ByteArray), .int .i64 0, .string (⟨#[]⟩ : ByteArray), .slice none 0 0, .slice none 0 0]) (t := 67) ?hr ?_; (case hd => rfl); (case hg => rfl); (case hr => exact Qj0_); intro gg hggg wgg hbox hb; have n0_ := Aside0.mk (below_step Qa0_ hb); have BKE2 := Aside0.mk ((hb.block ge (ra_blt BKge.out)).trans BKge.out); have HNE := Aside0.mk (show ge ≠ gg from fun e_ => by have := ra_blt BKge.out; omega); have HGG := Aside0.mk (show w.heap.size ≤ gg from Qm1_); have n1_ := Aside0.mk (hbox); clear HB; have HB := n0_; have BKgg := n1_; clear n0_ n1_; clear hb hbox hggg; have hczgg0 : wgg.cell? ⟨gg, 0, none⟩ = some (.string (⟨#[]⟩ : ByteArray)) := (blk_cell BKgg.out 0).trans rfl; have hczgg1 : wgg.cell? ⟨gg, 1, none⟩ = some (.int .i64 0) := (blk_cell BKgg.out 1).trans rfl; have hczgg2 : wgg.cell? ⟨gg, 2, none⟩ = some (.string (⟨#[]⟩ : ByteArray)) := (blk_cell BKgg.out 2).trans rfl; have hczgg3 : wgg.cell? ⟨gg, 3, none⟩ = some (.slice none 0 0) := (blk_cell BKgg.out 3).trans rfl; have hczgg4 : wgg.cell? ⟨gg, 4, none⟩ = some (.slice none 0 0) := (blk_cell BKgg.out 4).trans rfl) | ((with_reducible refine gate_store (t := 67) (p := 8) rfl ?_); refine ra_store ?a1 ?a2 67 (.tmp 8) (.tmp 13) ?a3 gg #[.string (⟨#[]⟩ : ByteArray), .int .i64 0, .string (⟨#[]⟩ : ByteArray), .slice none 0 0, .slice none 0 0] ?a4 ?a5 67 #[.string (⟨#[]⟩ : ByteArray), .int .i64 0, .string (⟨#[]⟩ : ByteArray), .slice none 0 0, .slice none 0 0] BKgg.out ?a6 ?a7 ?a8 ?_; (case a1 => rfl); (case a2 => rfl); (case a3 => rfl); (case a4 => rfl); (case a5 => rfl); (case a6 => rfl); (case a7 => rfl); (case a8 => exact Qp0_); intro w1 hs1 hs2 hs3; have HI := Aside0.mk (show RaI w w1 ge gg (⟨#[]⟩ : ByteArray) 0 (⟨#[]⟩ : ByteArray) (.slice none 0 0) (.slice none 0 0) [] [] from ⟨hs3 _ _ HB.out HGG.out, ⟨HGG.out, hs1, ra_nil _ _, ra_nil _ _, fun k_ h_ => by cases h_⟩, HGE.out, (hs2 ge HNE.out).trans BKE2.out, HNE.out⟩); clear hs1 hs2 hs3 HB HGG HGE HNE BKE2 BKgg BKge))
 go_loopg [16] k (fun kq v16 w' => ∃ (i : Int) (fr : ByteArray) (p : Int) (bi : ByteArray) (vn vl : Value) (n li : List Int), v16 = .int .i64 i ∧ Aside0 (impl_Console_read.l0 kq ns ls fo lw i fr p bi n li = some (rf, rp, rb, rn, rl, rok)) ∧ Aside0 (kq ≤ k) ∧ Aside0 (RaI w w' ge gg fr p bi vn vl n li))
 case atStart => exact ⟨0, _, 0, _, _, _, [], [], Qf0_, H', ⟨Nat.le_refl _⟩, HI⟩
 case round =>
  clear HI H'
  obtain ⟨i, fr, p, bi, vn, vl, n, li, rfl, HA, HK1, HI⟩ := hrel
  cases gk with
  | zero => exact absurd HA.out (by simp [impl_Console_read.l0])
  | succ k1 =>
   have H := HA.out
   clear HA
   simp only [impl_Console_read.l0] at H
   have hcg0 : wr.cell? ⟨gg, 0, none⟩ = some (.string fr) := (blk_cell HI.out.2.1.2.1 0).trans rfl
   have hcg1 : wr.cell? ⟨gg, 1, none⟩ = some (.int .i64 p) := (blk_cell HI.out.2.1.2.1 1).trans rfl
   have hcg2 : wr.cell? ⟨gg, 2, none⟩ = some (.string bi) := (blk_cell HI.out.2.1.2.1 2).trans rfl
   have hcg3 : wr.cell? ⟨gg, 3, none⟩ = some vn := (blk_cell HI.out.2.1.2.1 3).trans rfl
   have hcg4 : wr.cell? ⟨gg, 4, none⟩ = some vl := (blk_cell HI.out.2.1.2.1 4).trans rfl
   by_cases d1 : i < (lw.length : Int)
   rotate_left
   ·rw [if_neg d1] at H
    simp only [Option.some.injEq, Prod.mk.injEq] at H
    obtain ⟨rfl, rfl, rfl, rfl, rfl, rfl⟩ := H
    have d1b0 : decide (i < (lw.length : Int)) = false := decide_eq_false d1
    clear d1
    go_wp2_with (first | ((with_reducible refine gate_store (t := 67) (p := 6) rfl ?_); refine ra_store ?a1 ?a2 67 (.tmp 6) (.tmp 87) ?a3 ge #[.string fr, .int .i64 p, .string bi, vn, vl] ?a4 ?a5 67 #[.string (⟨#[]⟩ : ByteArray), .int .i64 0, .string (⟨#[]⟩ : ByteArray), .slice none 0 0, .slice none 0 0] HI.out.2.2.2.1 ?a6 ?a7 ?a8 ?_; (case a1 => rfl); (case a2 => rfl); (case a3 => rfl); (case a4 => rfl); (case a5 => rfl); (case a6 => rfl); (case a7 => rfl); (case a8 => exact Qb1_); intro wz hs1 hs2 hs3; have HR1 := Aside0.mk hs1; have HR2_ := Aside0.mk hs2; have HR3 := Aside0.mk hs3; clear hs1 hs2 hs3))
    refine bodyPost_ret (ra_results rfl _ _ ge 67 #[.string fr, .int .i64 p, .string bi, vn, vl] (0, 0) _ (.bool true) rfl HR1.out Tryz.underlying67 rfl Ql0_ rfl) rfl ?_
    exact ⟨vn, vl, rfl, ra_row HI.out.2.1.2.2.1 (fun k_ hk_ => HR2_.out k_ (fun e_ => ra_ne HI.out.2.1.2.2.1 HI.out.2.2.2.1 (by decide) (e_ ▸ hk_))), ra_row HI.out.2.1.2.2.2.1 (fun k_ hk_ => HR2_.out k_ (fun e_ => ra_ne HI.out.2.1.2.2.2.1 HI.out.2.2.2.1 (by decide) (e_ ▸ hk_))), HR3.out _ _ HI.out.1 HI.out.2.2.1⟩
   rw [if_pos d1] at H
   by_cases d2 : 0 ≤ i
   rotate_left
   ·rw [if_neg d2] at H
    exact absurd H (by simp)
   rw [if_pos d2] at H
   by_cases d3 : i < (fo.size : Int)
   rotate_left
   ·rw [if_neg d3] at H
    exact absurd H (by simp)
   rw [if_pos d3] at H
   have d1b0 : decide (i < (lw.length : Int)) = true := decide_eq_true d1
   obtain ⟨adw, ew, hxw⟩ := Kd.at_string (Kd.C_below HR2.out HI.out.1) i d2 d1
   cases ew
   obtain ⟨wd, hwd⟩ : ∃ y : ByteArray, rdOf ByteArray.empty lw i = y := ⟨_, rfl⟩
   rw [hwd] at H hxw
   clear hwd
   have hx4 := bt_at fo i
   have p2 := eq_true d2
   have q1 := eq_true d1
   have q3 := eq_true d3
   clear d1 d2 d3
   have hcc0 : wr.cell? ⟨b, 0, none⟩ = some (.slice A0 ns.length c0) := (blk_cell (con_below HC.out HI.out.1).2.1 0).trans rfl
   have hfg0 := blk_frozen HI.out.2.1.2.1 0
   have hfg1 := blk_frozen HI.out.2.1.2.1 1
   have hfg2 := blk_frozen HI.out.2.1.2.1 2
   have hfg3 := blk_frozen HI.out.2.1.2.1 3
   have hfg4 := blk_frozen HI.out.2.1.2.1 4
   by_cases d4 : bt fo i = 65
   ·rw [if_pos d4] at H
    have d4b0 : (bt fo i == 65) = true := beq_iff_eq.mpr d4
    clear d4
    obtain ⟨t, B1, H⟩ := Option.bind_eq_some_iff.mp H
    have B1_ := Aside0.mk B1
    clear B1
    by_cases e1 : t ≥ 0
    ·rw [if_pos e1] at H
     by_cases e2 : t < (ls.length : Int)
     rotate_left
     ·rw [if_neg e2] at H
      exact absurd H (by simp)
     rw [if_pos e2] at H
     have e1b0 : decide (0 ≤ t) = true := decide_eq_true e1
     have E1 := Aside0.mk e1
     have E2 := Aside0.mk e2
     have H' := Aside0.mk H
     clear H e1 e2
     go_wp2_with (first | (go_at_call 40; (with_reducible refine (slices_Index_string_string.calls k1 A0 c0 ns wd t _ ?s1 ?s2 B1_.out).mono ?_); (case s1 => exact Kd.C_below HC0.out HI.out.1); (case s2 => exact HL0.out); rintro e w2 ⟨rfl, ⟨nd, rfl⟩⟩) | ((with_reducible refine gate_store (t := 3) (p := 32) rfl ?_); refine store_event (t := 3) (p := 32) (v := .tmp 31) (w1 := ((wr.drewN nd).setCell ⟨gg, 1, none⟩ (.int .i64 t))) ?hg ?ho ?hn ?hr ?_; (case ho => rfl); (case hg => rfl); (case hn => rfl); (case hr => exact Qj0_); intro w3 hw_; have HI2 := Aside0.mk (ra_s1 (ra_draw HI.out nd) _ hw_); clear hw_; have hcc1 : w3.cell? ⟨b, 1, none⟩ = some (.slice A1 ls.length c1) := (blk_cell (con_below HC.out HI2.out.1).2.1 1).trans rfl; have hcd1 : w3.cell? ⟨gg, 1, none⟩ = some (.int .i64 t) := (blk_cell HI2.out.2.1.2.1 1).trans rfl; have hcd2 : w3.cell? ⟨gg, 2, none⟩ = some (.string bi) := (blk_cell HI2.out.2.1.2.1 2).trans rfl; have hfd2 := blk_frozen HI2.out.2.1.2.1 2; obtain ⟨adl, el, hxl⟩ := Kd.at_string (Kd.C_below HC1.out HI2.out.1) t E1.out E2.out; cases el; have pt := eq_true E1.out; have qt := eq_true E2.out))
     go_region
     go_wp2
     go_roundg k1
     case measure => have := HK1.out; omega
     case rel => exact ⟨(wrap64 (i + 1)), _, _, _, _, _, _, _, Qf0_, H', ⟨Qs0_⟩, ⟨by first | exact ra_s2 (ra_draw HI2.out _) _ rfl | exact ra_draw (ra_s2 HI2.out _ rfl) _ | exact ra_s2 HI2.out _ rfl⟩⟩
    ·rw [if_neg e1] at H
     simp only [Option.some.injEq, Prod.mk.injEq] at H; obtain ⟨rfl, rfl, rfl, rfl, rfl, rfl⟩ := H
     have e1b0 : decide (0 ≤ t) = false := decide_eq_false e1
     clear e1
     go_wp2_with (first | (go_at_call 40; (with_reducible refine (slices_Index_string_string.calls k1 A0 c0 ns wd t _ ?s1 ?s2 B1_.out).mono ?_); (case s1 => exact Kd.C_below HC0.out HI.out.1); (case s2 => exact HL0.out); rintro e w2 ⟨rfl, ⟨nd, rfl⟩⟩) | ((with_reducible refine gate_store (t := 3) (p := 32) rfl ?_); refine store_event (t := 3) (p := 32) (v := .tmp 31) (w1 := ((wr.drewN nd).setCell ⟨gg, 1, none⟩ (.int .i64 t))) ?hg ?ho ?hn ?hr ?_; (case ho => rfl); (case hg => rfl); (case hn => rfl); (case hr => exact Qj0_); intro w3 hw_; have HI2 := Aside0.mk (ra_s1 (ra_draw HI.out nd) _ hw_); clear hw_; have hcd1 : w3.cell? ⟨gg, 1, none⟩ = some (.int .i64 t) := (blk_cell HI2.out.2.1.2.1 1).trans rfl) | ((with_reducible refine gate_store (t := 67) (p := 6) rfl ?_); refine ra_store ?a1 ?a2 67 (.tmp 6) (.tmp 85) ?a3 ge #[.string (⟨#[]⟩ : ByteArray), .int .i64 0, .string (⟨#[]⟩ : ByteArray), .slice none 0 0, .slice none 0 0] ?a4 ?a5 67 #[.string (⟨#[]⟩ : ByteArray), .int .i64 0, .string (⟨#[]⟩ : ByteArray), .slice none 0 0, .slice none 0 0] HI2.out.2.2.2.1 ?a6 ?a7 ?a8 ?_; (case a1 => rfl); (case a2 => rfl); (case a3 => rfl); (case a4 => rfl); (case a5 => rfl); (case a6 => rfl); (case a7 => rfl); (case a8 => exact Qb1_); intro wz hs1 hs2 hs3; have HR1 := Aside0.mk hs1; have HR2_ := Aside0.mk hs2; have HR3 := Aside0.mk hs3; clear hs1 hs2 hs3))
     refine bodyPost_ret (ra_results rfl _ _ ge 67 #[.string (⟨#[]⟩ : ByteArray), .int .i64 0, .string (⟨#[]⟩ : ByteArray), .slice none 0 0, .slice none 0 0] (0, 0) _ (.bool false) rfl HR1.out Tryz.underlying67 rfl Ql0_ rfl) rfl ?_; exact ⟨_, _, rfl, ra_nil _ _, ra_nil _ _, HR3.out _ _ HI2.out.1 HI2.out.2.2.1⟩
   rw [if_neg d4] at H
   have d4b0 : (bt fo i == 65) = false := beq_eq_false_iff_ne.mpr d4
   clear d4
   by_cases d5 : bt fo i = 87
   ·rw [if_pos d5] at H
    have d5b0 : (bt fo i == 87) = true := beq_iff_eq.mpr d5
    have H' := Aside0.mk H
    clear d5 H
    go_wp2
    go_roundg k1; (case measure => exact Qs0_); (case rel => exact ⟨(wrap64 (i + 1)), _, _, _, _, _, _, _, Qf0_, H', ⟨Qs0_⟩, ⟨ra_s0 HI.out _ rfl⟩⟩)
   rw [if_neg d5] at H
   have d5b0 : (bt fo i == 87) = false := beq_eq_false_iff_ne.mpr d5
   clear d5
   by_cases d6 : bt fo i = 66
   ·rw [if_pos d6] at H
    have d6b0 : (bt fo i == 66) = true := beq_iff_eq.mpr d6
    clear d6
    by_cases e1 : wd.toList = ([110, 111, 110, 101] : List UInt8)
    ·rw [if_pos e1] at H
     have e1b0 : (wd.toList == ([110, 111, 110, 101] : List UInt8)) = true := beq_iff_eq.mpr e1
     have e1b1 : (wd.toList != ([110, 111, 110, 101] : List UInt8)) = false := bne_eq_false_iff_eq.mpr e1
     have H' := Aside0.mk H
     clear e1 H
     go_wp2
     go_roundg k1; (case measure => exact Qs0_); (case rel => exact ⟨(wrap64 (i + 1)), _, _, _, _, _, _, _, Qf0_, H', ⟨Qs0_⟩, ⟨HI.out⟩⟩)
    rw [if_neg e1] at H
    have e1b0 : (wd.toList == ([110, 111, 110, 101] : List UInt8)) = false := beq_eq_false_iff_ne.mpr e1
    have e1b1 : (wd.toList != ([110, 111, 110, 101] : List UInt8)) = true := bne_iff_ne.mpr e1
    clear e1
    by_cases e2 : wd.toList = ([] : List UInt8)
    ·rw [if_pos e2] at H
     simp only [Option.some.injEq, Prod.mk.injEq] at H; obtain ⟨rfl, rfl, rfl, rfl, rfl, rfl⟩ := H
     have e2b0 : (wd.toList == ([] : List UInt8)) = true := beq_iff_eq.mpr e2
     have e2b1 : (wd.toList != ([] : List UInt8)) = false := bne_eq_false_iff_eq.mpr e2
     clear e2
     go_wp2_with (first | ((with_reducible refine gate_store (t := 9) (p := 61) rfl ?_); refine store_event (t := 9) (p := 61) (v := .tmp 60) (w1 := (wr.setCell ⟨gg, 2, none⟩ (.string wd))) ?hg ?ho ?hn ?hr ?_; (case ho => rfl); (case hg => rfl); (case hn => rfl); (case hr => exact Qj0_); intro w3 hw_; have HI2 := Aside0.mk (ra_s2 HI.out _ hw_); clear hw_) | ((with_reducible refine gate_store (t := 67) (p := 6) rfl ?_); refine ra_store ?a1 ?a2 67 (.tmp 6) (.tmp 85) ?a3 ge #[.string (⟨#[]⟩ : ByteArray), .int .i64 0, .string (⟨#[]⟩ : ByteArray), .slice none 0 0, .slice none 0 0] ?a4 ?a5 67 #[.string (⟨#[]⟩ : ByteArray), .int .i64 0, .string (⟨#[]⟩ : ByteArray), .slice none 0 0, .slice none 0 0] HI2.out.2.2.2.1 ?a6 ?a7 ?a8 ?_; (case a1 => rfl); (case a2 => rfl); (case a3 => rfl); (case a4 => rfl); (case a5 => rfl); (case a6 => rfl); (case a7 => rfl); (case a8 => exact Qb1_); intro wz hs1 hs2 hs3; have HR1 := Aside0.mk hs1; have HR2_ := Aside0.mk hs2; have HR3 := Aside0.mk hs3; clear hs1 hs2 hs3))
     refine bodyPost_ret (ra_results rfl _ _ ge 67 #[.string (⟨#[]⟩ : ByteArray), .int .i64 0, .string (⟨#[]⟩ : ByteArray), .slice none 0 0, .slice none 0 0] (0, 0) _ (.bool false) rfl HR1.out Tryz.underlying67 rfl Ql0_ rfl) rfl ?_; exact ⟨_, _, rfl, ra_nil _ _, ra_nil _ _, HR3.out _ _ HI2.out.1 HI2.out.2.2.1⟩
    rw [if_neg e2] at H
    have e2b0 : (wd.toList == ([] : List UInt8)) = false := beq_eq_false_iff_ne.mpr e2
    have e2b1 : (wd.toList != ([] : List UInt8)) = true := bne_iff_ne.mpr e2
    clear e2
    obtain ⟨t, B1, H⟩ := Option.bind_eq_some_iff.mp H
    have B1_ := Aside0.mk B1
    clear B1
    cases t with
    | true =>
     rw [if_pos rfl] at H
     have H' := Aside0.mk H
     clear H
     go_wp2_with (first | (go_at_call 34; (with_reducible refine (impl_areBits.calls wd true _ B1_.out).mono ?_); rintro e w2 ⟨rfl, hb⟩; have HI1 := Aside0.mk (ra_below HI.out hb); clear hb; have hcd2 : w2.cell? ⟨gg, 2, none⟩ = some (.string bi) := (blk_cell HI1.out.2.1.2.1 2).trans rfl; have hfd2 := blk_frozen HI1.out.2.1.2.1 2))
     go_roundg k1; (case measure => exact Qs0_); (case rel => exact ⟨(wrap64 (i + 1)), _, _, _, _, _, _, _, Qf0_, H', ⟨Qs0_⟩, ⟨ra_s2 HI1.out _ rfl⟩⟩)
    | false =>
     rw [if_neg (fun h_ => Bool.false_ne_true h_)] at H
     simp only [Option.some.injEq, Prod.mk.injEq] at H; obtain ⟨rfl, rfl, rfl, rfl, rfl, rfl⟩ := H
     go_wp2_with (first | (go_at_call 34; (with_reducible refine (impl_areBits.calls wd false _ B1_.out).mono ?_); rintro e w2 ⟨rfl, hb⟩; have HI1 := Aside0.mk (ra_below HI.out hb); clear hb; have hcd2 : w2.cell? ⟨gg, 2, none⟩ = some (.string bi) := (blk_cell HI1.out.2.1.2.1 2).trans rfl; have hfd2 := blk_frozen HI1.out.2.1.2.1 2) | ((with_reducible refine gate_store (t := 9) (p := 61) rfl ?_); refine store_event (t := 9) (p := 61) (v := .tmp 60) (w1 := (w2.setCell ⟨gg, 2, none⟩ (.string wd))) ?hg ?ho ?hn ?hr ?_; (case ho => rfl); (case hg => rfl); (case hn => rfl); (case hr => exact Qj0_); intro w3 hw_; have HI2 := Aside0.mk (ra_s2 HI1.out _ hw_); clear hw_) | ((with_reducible refine gate_store (t := 67) (p := 6) rfl ?_); refine ra_store ?a1 ?a2 67 (.tmp 6) (.tmp 85) ?a3 ge #[.string (⟨#[]⟩ : ByteArray), .int .i64 0, .string (⟨#[]⟩ : ByteArray), .slice none 0 0, .slice none 0 0] ?a4 ?a5 67 #[.string (⟨#[]⟩ : ByteArray), .int .i64 0, .string (⟨#[]⟩ : ByteArray), .slice none 0 0, .slice none 0 0] HI2.out.2.2.2.1 ?a6 ?a7 ?a8 ?_; (case a1 => rfl); (case a2 => rfl); (case a3 => rfl); (case a4 => rfl); (case a5 => rfl); (case a6 => rfl); (case a7 => rfl); (case a8 => exact Qb1_); intro wz hs1 hs2 hs3; have HR1 := Aside0.mk hs1; have HR2_ := Aside0.mk hs2; have HR3 := Aside0.mk hs3; clear hs1 hs2 hs3))
     refine bodyPost_ret (ra_results rfl _ _ ge 67 #[.string (⟨#[]⟩ : ByteArray), .int .i64 0, .string (⟨#[]⟩ : ByteArray), .slice none 0 0, .slice none 0 0] (0, 0) _ (.bool false) rfl HR1.out Tryz.underlying67 rfl Ql0_ rfl) rfl ?_; exact ⟨_, _, rfl, ra_nil _ _, ra_nil _ _, HR3.out _ _ HI2.out.1 HI2.out.2.2.1⟩
   rw [if_neg d6] at H
   have d6b0 : (bt fo i == 66) = false := beq_eq_false_iff_ne.mpr d6
   clear d6
   by_cases d7 : bt fo i = 78
   ·rw [if_pos d7] at H
    have d7b0 : (bt fo i == 78) = true := beq_iff_eq.mpr d7
    clear d7
    obtain ⟨⟨x, t⟩, B1, H⟩ := Option.bind_eq_some_iff.mp H
    have B1_ := Aside0.mk B1
    clear B1
    by_cases e1 : n.length < 1000
    rotate_left
    ·rw [if_neg e1] at H
     exact absurd H (by simp)
    rw [if_pos e1] at H
    have HL := Aside0.mk e1
    clear e1
    cases t with
    | true =>
     rw [if_pos rfl] at H
     have H' := Aside0.mk H
     clear H
     go_wp2_with (first | (go_at_call 41; (with_reducible refine (impl_ReadDecimal.calls wd x true _ ?tb B1_.out).mono ?_); (case tb => exact tabBelow HT.out HI.out.1); rintro e w2 ⟨rfl, hb⟩; have HI1 := Aside0.mk (ra_below HI.out hb); clear hb; have hcd3 : w2.cell? ⟨gg, 3, none⟩ = some vn := (blk_cell HI1.out.2.1.2.1 3).trans rfl; have hfd3 := blk_frozen HI1.out.2.1.2.1 3) | ((with_reducible refine gate_builtin (b := .append) (xs := #[.tmp 70, .tmp 72]) rfl ?_); at_builtin; refine Kd.R_append (Kd.int .i64) (w0 := w) w.heap.size rfl (.tmp 70) (.tmp 72) 61 2 (.int .i64 0) 8 rfl Tryz.underlying61 info2 rfl (by decide) (by omega) vn n x [.int .i64 x] (fun _ => True) (fun _ => False) rfl rfl ?aP (fun _ hk => hk.elim) (fun _ _ => trivial) ?aO ?aB ?aS ?aL ?_; (case aP => exact rfl); (case aB => exact HI1.out.1); (case aO => exact HI1.out.2.1.2.2.1); (case aS => exact HI1.out.1.size); (case aL => have := HL.out; omega); intro v73 w73 ho hb hg_ hat_; obtain ⟨Ax, cx, ex⟩ := Kd.R_slice ho; subst ex; have HO := Aside0.mk (And.intro ho (And.intro hb (And.intro hg_ hat_))); have hgg_ := (hg_.block gg (ra_blt HI1.out.2.1.2.1) (fun e1 => ra_ne HI1.out.2.1.2.2.1 HI1.out.2.1.2.1 (by decide) e1.symm)).trans HI1.out.2.1.2.1; have hce3 : w73.cell? ⟨gg, 3, none⟩ = some vn := (blk_cell hgg_ 3).trans rfl; have hfe3 := blk_frozen hgg_ 3; clear ho hb hg_ hat_ hgg_) | ((with_reducible refine gate_store (t := 61) (p := 74) rfl ?_); refine store_event (t := 61) (p := 74) (v := .tmp 73) (w1 := (w73.setCell ⟨gg, 3, none⟩ (.slice Ax (n ++ [x]).length cx))) ?hg ?ho ?hn ?hr ?_; (case ho => rfl); (case hg => rfl); (case hn => rfl); (case hr => exact Qj0_); intro w3 hw_; have HI2 := Aside0.mk (ra_s3 HI1.out HO.out.1 HO.out.2.1 HO.out.2.2.1 HO.out.2.2.2 hw_); clear hw_))
     go_roundg k1; (case measure => exact Qs0_); (case rel => exact ⟨(wrap64 (i + 1)), _, _, _, _, _, _, _, Qf0_, H', ⟨Qs0_⟩, ⟨HI2.out⟩⟩)
    | false =>
     rw [if_neg (fun h_ => Bool.false_ne_true h_)] at H
     simp only [Option.some.injEq, Prod.mk.injEq] at H; obtain ⟨rfl, rfl, rfl, rfl, rfl, rfl⟩ := H
     go_wp2_with (first | (go_at_call 41; (with_reducible refine (impl_ReadDecimal.calls wd x false _ ?tb B1_.out).mono ?_); (case tb => exact tabBelow HT.out HI.out.1); rintro e w2 ⟨rfl, hb⟩; have HI1 := Aside0.mk (ra_below HI.out hb); clear hb; have hcd3 : w2.cell? ⟨gg, 3, none⟩ = some vn := (blk_cell HI1.out.2.1.2.1 3).trans rfl; have hfd3 := blk_frozen HI1.out.2.1.2.1 3) | ((with_reducible refine gate_builtin (b := .append) (xs := #[.tmp 70, .tmp 72]) rfl ?_); at_builtin; refine Kd.R_append (Kd.int .i64) (w0 := w) w.heap.size rfl (.tmp 70) (.tmp 72) 61 2 (.int .i64 0) 8 rfl Tryz.underlying61 info2 rfl (by decide) (by omega) vn n x [.int .i64 x] (fun _ => True) (fun _ => False) rfl rfl ?aP (fun _ hk => hk.elim) (fun _ _ => trivial) ?aO ?aB ?aS ?aL ?_; (case aP => exact rfl); (case aB => exact HI1.out.1); (case aO => exact HI1.out.2.1.2.2.1); (case aS => exact HI1.out.1.size); (case aL => have := HL.out; omega); intro v73 w73 ho hb hg_ hat_; obtain ⟨Ax, cx, ex⟩ := Kd.R_slice ho; subst ex; have HO := Aside0.mk (And.intro ho (And.intro hb (And.intro hg_ hat_))); have hgg_ := (hg_.block gg (ra_blt HI1.out.2.1.2.1) (fun e1 => ra_ne HI1.out.2.1.2.2.1 HI1.out.2.1.2.1 (by decide) e1.symm)).trans HI1.out.2.1.2.1; have hce3 : w73.cell? ⟨gg, 3, none⟩ = some vn := (blk_cell hgg_ 3).trans rfl; have hfe3 := blk_frozen hgg_ 3; clear ho hb hg_ hat_ hgg_) | ((with_reducible refine gate_store (t := 61) (p := 74) rfl ?_); refine store_event (t := 61) (p := 74) (v := .tmp 73) (w1 := (w73.setCell ⟨gg, 3, none⟩ (.slice Ax (n ++ [x]).length cx))) ?hg ?ho ?hn ?hr ?_; (case ho => rfl); (case hg => rfl); (case hn => rfl); (case hr => exact Qj0_); intro w3 hw_; have HI2 := Aside0.mk (ra_s3 HI1.out HO.out.1 HO.out.2.1 HO.out.2.2.1 HO.out.2.2.2 hw_); clear hw_) | ((with_reducible refine gate_store (t := 67) (p := 6) rfl ?_); refine ra_store ?a1 ?a2 67 (.tmp 6) (.tmp 85) ?a3 ge #[.string (⟨#[]⟩ : ByteArray), .int .i64 0, .string (⟨#[]⟩ : ByteArray), .slice none 0 0, .slice none 0 0] ?a4 ?a5 67 #[.string (⟨#[]⟩ : ByteArray), .int .i64 0, .string (⟨#[]⟩ : ByteArray), .slice none 0 0, .slice none 0 0] HI2.out.2.2.2.1 ?a6 ?a7 ?a8 ?_; (case a1 => rfl); (case a2 => rfl); (case a3 => rfl); (case a4 => rfl); (case a5 => rfl); (case a6 => rfl); (case a7 => rfl); (case a8 => exact Qb1_); intro wz hs1 hs2 hs3; have HR1 := Aside0.mk hs1; have HR2_ := Aside0.mk hs2; have HR3 := Aside0.mk hs3; clear hs1 hs2 hs3))
     refine bodyPost_ret (ra_results rfl _ _ ge 67 #[.string (⟨#[]⟩ : ByteArray), .int .i64 0, .string (⟨#[]⟩ : ByteArray), .slice none 0 0, .slice none 0 0] (0, 0) _ (.bool false) rfl HR1.out Tryz.underlying67 rfl Ql0_ rfl) rfl ?_; exact ⟨_, _, rfl, ra_nil _ _, ra_nil _ _, HR3.out _ _ HI2.out.1 HI2.out.2.2.1⟩
   rw [if_neg d7] at H
   have d7b0 : (bt fo i == 78) = false := beq_eq_false_iff_ne.mpr d7
   clear d7
   by_cases d8 : bt fo i = 76
   ·rw [if_pos d8] at H
    have d8b0 : (bt fo i == 76) = true := beq_iff_eq.mpr d8
    clear d8
    obtain ⟨⟨xl, t⟩, B1, H⟩ := Option.bind_eq_some_iff.mp H
    have B1_ := Aside0.mk B1
    clear B1
    cases t with
    | true =>
     rw [if_pos rfl] at H
     have H' := Aside0.mk H
     clear H
     go_wp2_with (first | (go_at_call 42; (with_reducible refine (impl_ReadList.calls k1 wd xl true _ ?tb B1_.out).mono ?_); (case tb => exact tabBelow HT.out HI.out.1); rintro e w2 ⟨vx, rfl, hr, hb⟩; obtain ⟨Ax, cx, ex⟩ := Kd.R_slice hr; subst ex; have HI1 := Aside0.mk (ra_below HI.out hb); have HO := Aside0.mk (And.intro hb hr); clear hb hr; have hcd4 : w2.cell? ⟨gg, 4, none⟩ = some vl := (blk_cell HI1.out.2.1.2.1 4).trans rfl; have hfd4 := blk_frozen HI1.out.2.1.2.1 4) | ((with_reducible refine gate_store (t := 61) (p := 82) rfl ?_); refine store_event (t := 61) (p := 82) (v := .tmp 80) (w1 := (w2.setCell ⟨gg, 4, none⟩ (.slice Ax xl.length cx))) ?hg ?ho ?hn ?hr ?_; (case ho => rfl); (case hg => rfl); (case hn => rfl); (case hr => exact Qj0_); intro w3 hw_; have HI2 := Aside0.mk (ra_s4 HI.out HO.out.1 HO.out.2 hw_); clear hw_))
     go_roundg k1; (case measure => exact Qs0_); (case rel => exact ⟨(wrap64 (i + 1)), _, _, _, _, _, _, _, Qf0_, H', ⟨Qs0_⟩, ⟨HI2.out⟩⟩)
    | false =>
     rw [if_neg (fun h_ => Bool.false_ne_true h_)] at H
     simp only [Option.some.injEq, Prod.mk.injEq] at H; obtain ⟨rfl, rfl, rfl, rfl, rfl, rfl⟩ := H
     go_wp2_with (first | (go_at_call 42; (with_reducible refine (impl_ReadList.calls k1 wd xl false _ ?tb B1_.out).mono ?_); (case tb => exact tabBelow HT.out HI.out.1); rintro e w2 ⟨vx, rfl, hr, hb⟩; obtain ⟨Ax, cx, ex⟩ := Kd.R_slice hr; subst ex; have HI1 := Aside0.mk (ra_below HI.out hb); have HO := Aside0.mk (And.intro hb hr); clear hb hr; have hcd4 : w2.cell? ⟨gg, 4, none⟩ = some vl := (blk_cell HI1.out.2.1.2.1 4).trans rfl; have hfd4 := blk_frozen HI1.out.2.1.2.1 4) | ((with_reducible refine gate_store (t := 61) (p := 82) rfl ?_); refine store_event (t := 61) (p := 82) (v := .tmp 80) (w1 := (w2.setCell ⟨gg, 4, none⟩ (.slice Ax xl.length cx))) ?hg ?ho ?hn ?hr ?_; (case ho => rfl); (case hg => rfl); (case hn => rfl); (case hr => exact Qj0_); intro w3 hw_; have HI2 := Aside0.mk (ra_s4 HI.out HO.out.1 HO.out.2 hw_); clear hw_) | ((with_reducible refine gate_store (t := 67) (p := 6) rfl ?_); refine ra_store ?a1 ?a2 67 (.tmp 6) (.tmp 85) ?a3 ge #[.string (⟨#[]⟩ : ByteArray), .int .i64 0, .string (⟨#[]⟩ : ByteArray), .slice none 0 0, .slice none 0 0] ?a4 ?a5 67 #[.string (⟨#[]⟩ : ByteArray), .int .i64 0, .string (⟨#[]⟩ : ByteArray), .slice none 0 0, .slice none 0 0] HI2.out.2.2.2.1 ?a6 ?a7 ?a8 ?_; (case a1 => rfl); (case a2 => rfl); (case a3 => rfl); (case a4 => rfl); (case a5 => rfl); (case a6 => rfl); (case a7 => rfl); (case a8 => exact Qb1_); intro wz hs1 hs2 hs3; have HR1 := Aside0.mk hs1; have HR2_ := Aside0.mk hs2; have HR3 := Aside0.mk hs3; clear hs1 hs2 hs3))
     refine bodyPost_ret (ra_results rfl _ _ ge 67 #[.string (⟨#[]⟩ : ByteArray), .int .i64 0, .string (⟨#[]⟩ : ByteArray), .slice none 0 0, .slice none 0 0] (0, 0) _ (.bool false) rfl HR1.out Tryz.underlying67 rfl Ql0_ rfl) rfl ?_; exact ⟨_, _, rfl, ra_nil _ _, ra_nil _ _, HR3.out _ _ HI2.out.1 HI2.out.2.2.1⟩
   rw [if_neg d8] at H
   have d8b0 : (bt fo i == 76) = false := beq_eq_false_iff_ne.mpr d8
   have H' := Aside0.mk H
   clear d8 H
   go_wp2
   go_roundg k1; (case measure => exact Qs0_); (case rel => exact ⟨(wrap64 (i + 1)), _, _, _, _, _, _, _, Qf0_, H', ⟨Qs0_⟩, ⟨HI.out⟩⟩)
def impl_orNone.f (a0 : ByteArray) : Option (ByteArray) := if a0.toList = ([] : List UInt8) then (some (⟨#[110, 111, 110, 101]⟩ : ByteArray)) else (some a0)
set_option maxHeartbeats 8000000 in
set_option maxRecDepth 100000 in
theorem impl_orNone.calls (a0 : ByteArray) (r : ByteArray) (w : World) (h : impl_orNone.f a0 = some r) :
 Calls Tryz.prog 44 #[.string a0] w fun e w' => e = .returned (.string r) ∧ Drawn0 w w' := by
 have H : (if a0.toList = ([] : List UInt8) then (some (⟨#[110, 111, 110, 101]⟩ : ByteArray)) else (some a0)) = some r := h
 clear h
 by_cases c2 : a0.toList = ([] : List UInt8)
 ·rw [if_pos c2] at H
  have c2b0 := beq_iff_eq.mpr c2
  have c2b1 := bne_eq_false_iff_eq.mpr c2
  clear c2
  obtain rfl := Option.some.inj H
  go_enter Tryz.func44, Tryz.ntmps44
  go_wp2
  go_ret
  exact ⟨Qf0_, Qk0_⟩
 ·rw [if_neg c2] at H
  have c2b0 := beq_eq_false_iff_ne.mpr c2
  have c2b1 := bne_iff_ne.mpr c2
  obtain rfl := Option.some.inj H
  go_enter Tryz.func44, Tryz.ntmps44
  go_wp2
  go_ret
  exact ⟨Qf0_, Qk0_⟩
def impl_bitOf.f (a0 : Bool) : Option (ByteArray) := if a0 = true then (some (⟨#[49]⟩ : ByteArray)) else (some (⟨#[48]⟩ : ByteArray))
set_option maxHeartbeats 8000000 in
set_option maxRecDepth 100000 in
theorem impl_bitOf.calls (a0 : Bool) (r : ByteArray) (w : World) (h : impl_bitOf.f a0 = some r) :
 Calls Tryz.prog 88 #[.bool a0] w fun e w' => e = .returned (.string r) ∧ Drawn0 w w' := by
 have H : (if a0 = true then (some (⟨#[49]⟩ : ByteArray)) else (some (⟨#[48]⟩ : ByteArray))) = some r := h
 clear h
 by_cases c2 : a0 = true
 ·subst c2
  rw [if_pos rfl] at H
  have H1 := H
  clear H
  have H := H1
  clear H1
  obtain rfl := Option.some.inj H
  go_enter Tryz.func88, Tryz.ntmps88
  go_wp2
  go_ret
  exact ⟨Qf0_, Qk0_⟩
 ·replace c2 := Bool.eq_false_iff.mpr c2
  subst c2
  rw [if_neg (show ¬ (false = true) by decide)] at H
  have H1 := H
  clear H
  have H := H1
  clear H1
  obtain rfl := Option.some.inj H
  go_enter Tryz.func88, Tryz.ntmps88
  go_wp2
  go_ret
  exact ⟨Qf0_, Qk0_⟩
def impl_xorBits.l0 : Nat → ByteArray → ByteArray → ByteArray → Int → Option (ByteArray)
 | 0, _, _, _, _ => none
 | k + 1, x0, x1, x5, x10 => if x10 < (x0.size : Int) then (if 0 ≤ x10 then (if x10 < (x1.size : Int) then ((impl_bitOf.f ((bt x0 x10) != (bt x1 x10))).bind fun t20 => (if x5.size + t20.size ≤ 140737488355328 then (impl_xorBits.l0 k x0 x1 (x5 ++ t20) (wrap64 (x10 + 1))) else (none))) else (none)) else (none)) else (some x5)
def impl_xorBits.f (k : Nat) (a0 : ByteArray) (a1 : ByteArray) : Option (ByteArray) := impl_xorBits.l0 k a0 a1 (⟨#[]⟩ : ByteArray) 0
theorem impl_xorBits.cells (s t : ByteArray) : Lib.byteCells s.data.toList ++ Lib.strCells t = Lib.byteCells (s ++ t).data.toList := by
 rw [ByteArray.data_append, Array.toList_append]
 simp [Lib.byteCells, Lib.strCells]
theorem impl_xorBits.len (s : ByteArray) : (Lib.byteCells s.data.toList).length = s.size := by
 unfold Lib.byteCells
 rw [List.length_map, Array.length_toList]; rfl
set_option maxHeartbeats 8000000 in
set_option maxRecDepth 100000 in
theorem impl_xorBits.calls (k : Nat) (a0 : ByteArray) (a1 : ByteArray) (r : ByteArray) (w : World) (h : impl_xorBits.f k a0 a1 = some r) :
 Calls Tryz.prog 58 #[.string a0, .string a1] w fun e w' => e = .returned (.string r) ∧ Below w.heap.size w w' := by
 have H : impl_xorBits.l0 k a0 a1 (⟨#[]⟩ : ByteArray) 0 = some r := h
 clear h
 have H' := Aside0.mk H
 clear H
 have HB0 : Below w.heap.size w (w.alloc (.cells #[.pointer none, .slice none 0 0] 45)) := (Below.refl _ w).alloc (Nat.le_refl _) _
 have HF := Aside0.mk (Lib.fresh_isBuilder 45 5 w)
 have HB := Aside0.mk HB0
 clear HB0
 go_enter Tryz.func58, Tryz.ntmps58
 go_wp2
 go_loopg [10] k (fun kq v10 w' => ∃ (x5_1 : ByteArray) (x10_1 : Int), v10 = .int .i64 x10_1 ∧ Aside0 (impl_xorBits.l0 kq a0 a1 x5_1 x10_1 = some r) ∧ Aside0 (kq ≤ k) ∧ Aside0 (Lib.IsBuilder 45 5 w.heap.size w.heap.size (Lib.byteCells x5_1.data.toList) w') ∧ Aside0 (Below w.heap.size w w'))
 case atStart => exact ⟨(⟨#[]⟩ : ByteArray), 0, rfl, H', ⟨Nat.le_refl _⟩, ⟨HF.out⟩, ⟨HB.out⟩⟩
 case round =>
  clear H' HF HB
  obtain ⟨x5_1, x10_1, rfl, HA, HK1, HO, HB⟩ := hrel
  cases gk with
  | zero => exact absurd HA.out (by simp [impl_xorBits.l0])
  | succ k1 =>
   have H := HA.out
   clear HA
   simp only [impl_xorBits.l0] at H
   by_cases c7 : x10_1 < (a0.size : Int)
   ·rw [if_pos c7] at H
    have c7b0 := decide_eq_true c7
    by_cases c8 : 0 ≤ x10_1
    ·rw [if_pos c8] at H
     by_cases c9 : x10_1 < (a1.size : Int)
     ·rw [if_pos c9] at H
      obtain ⟨t20, A20, H⟩ := Option.bind_eq_some_iff.mp H
      by_cases c10 : x5_1.size + t20.size ≤ 140737488355328
      ·rw [if_pos c10] at H
       have H' := Aside0.mk H
       have A2 := Aside0.mk A20
       have LM := Aside0.mk c10
       clear H A20 c10
       have p14 := eq_true c8
       have q14 := eq_true c7
       have q15 := eq_true c9
       have hx14 := bt_at a0 x10_1
       have hx15 := bt_at a1 x10_1
       clear c7 c8 c9
       go_wp2
       go_still_tail 7, Ql0_
       go_wp2_with (first | (go_at_call 88; (with_reducible refine (impl_bitOf.calls _ _ _ A2.out).mono ?_); rintro e w' ⟨rfl, ⟨nd, rfl⟩⟩) | (go_at_call 19; refine (Tryz.Builder_WriteString w.heap.size w.heap.size (Lib.byteCells x5_1.data.toList) t20 _ ?s1 ?s2 ?s3).mono ?_; (case s1 => exact HO.out); (case s2 => exact (by rw [show (Lib.byteCells x5_1.data.toList).length = x5_1.size from impl_xorBits.len x5_1]; exact LM.out)); (case s3 => exact HB.out.size); rintro e w9 ⟨rfl, hbu, hb⟩; have n0_ := Aside0.mk ((pw_below_drewN HB.out _).trans hb); have n1_ := Aside0.mk hbu; clear HB HO; have HB := n0_; have HO := n1_; clear n0_ n1_ hbu hb))
       go_roundg k1
       case measure => have := HK1.out; omega
       case rel => exact ⟨x5_1 ++ t20, (wrap64 (x10_1 + 1)), Qf0_, H', ⟨Qs0_⟩, ⟨by rw [← impl_xorBits.cells]; exact Or.inr HO.out⟩, ⟨Qa0_⟩⟩
      ·rw [if_neg c10] at H
       exact absurd H (by simp)
     ·rw [if_neg c9] at H
      exact absurd H (by simp)
    ·rw [if_neg c8] at H
     exact absurd H (by simp)
   ·rw [if_neg c7] at H
    have c7b0 := decide_eq_false c7
    clear c7
    obtain rfl := Option.some.inj H
    go_wp2_with (first | (go_at_call 20; refine (Tryz.Builder_String_any w.heap.size w.heap.size x5_1.data.toList _ ?s1 ?s2).mono ?_; (case s1 => exact HO.out); (case s2 => exact HB.out.size); rintro e w9 ⟨rfl, hb⟩; have n0_ := Aside0.mk (HB.out.trans hb); clear HB; have HB := n0_; clear n0_ hb))
    go_ret
    exact ⟨Qf0_, HB.out⟩
def strings_Repeat.f (a0 : ByteArray) (a1 : Int) : Option (ByteArray) := if 0 ≤ a1 ∧ a1 ≤ 9223372036854775807 ∧ a0.size * a1.toNat ≤ 140737488355328 then some ⟨(Lib.repeatL a0.data.toList a1.toNat).toArray⟩ else none
theorem strings_Repeat.calls (a0 : ByteArray) (a1 : Int) (r : ByteArray) (w : World) (h : strings_Repeat.f a0 a1 = some r) :
 Calls Tryz.prog 59 #[.string a0, .int .i64 a1] w fun e w' => e = .returned (.string r) ∧ Below w.heap.size w w' := by
 unfold strings_Repeat.f at h
 by_cases hc : 0 ≤ a1 ∧ a1 ≤ 9223372036854775807 ∧ a0.size * a1.toNat ≤ 140737488355328
 ·rw [if_pos hc] at h
  obtain rfl := Option.some.inj h
  have e := Int.toNat_of_nonneg hc.1
  have hq := Tryz.strings_Repeat a0 a1.toNat w (by omega) hc.2.2
  rw [e] at hq
  exact hq
 ·rw [if_neg hc] at h
  cases h
def impl_opposite.f (k : Nat) (a0 : ByteArray) : Option (ByteArray) := (strings_Repeat.f (⟨#[49]⟩ : ByteArray) (a0.size : Int)).bind fun t300 => ((impl_xorBits.f k a0 t300).bind fun t301 => (some t301))
set_option maxHeartbeats 8000000 in
set_option maxRecDepth 100000 in
theorem impl_opposite.calls (k : Nat) (a0 : ByteArray) (r : ByteArray) (w : World) (h : impl_opposite.f k a0 = some r) :
 Calls Tryz.prog 46 #[.string a0] w fun e w' => e = .returned (.string r) ∧ Below w.heap.size w w' := by
 have HB := Aside0.mk (Below.refl w.heap.size w)
 have H : ((strings_Repeat.f (⟨#[49]⟩ : ByteArray) (a0.size : Int)).bind fun t300 => ((impl_xorBits.f k a0 t300).bind fun t301 => (some t301))) = some r := h
 clear h
 replace H := Option.bind_eq_some_iff.mp H
 obtain ⟨t300, A20, H⟩ := H
 try dsimp only at H
 have A2 := Aside0.mk A20
 clear A20
 replace H := Option.bind_eq_some_iff.mp H
 obtain ⟨t301, A30, H⟩ := H
 try dsimp only at H
 have A3 := Aside0.mk A30
 clear A30
 obtain rfl := Option.some.inj H
 go_enter Tryz.func46, Tryz.ntmps46
 go_wp2_with (first | ((with_reducible refine gate_callee (f := 59) rfl ?_); refine goesL_ (some 6) rfl rfl Tryz.func59 Ql0_ rfl #[.string (⟨#[49]⟩ : ByteArray), .int .i64 (a0.size : Int)] rfl Qb0_ ?_; (with_reducible refine (strings_Repeat.calls (⟨#[49]⟩ : ByteArray) (a0.size : Int) t300 _ A2.out).mono ?_); rintro e w4 ⟨rfl, hb⟩; refine ⟨_, rfl, ?_⟩; have n0_ := Aside0.mk (below_step Qa0_ hb); clear HB; have HB := n0_; clear n0_; (try clear hb); (try clear hb2); (try clear hk); (try clear hi)) | ((with_reducible refine gate_callee (f := 58) rfl ?_); refine goesL_ (some 7) rfl rfl Tryz.func58 Ql0_ rfl #[.string a0, .string t300] rfl Qb0_ ?_; (with_reducible refine (impl_xorBits.calls k a0 t300 t301 _ A3.out).mono ?_); rintro e w5 ⟨rfl, hb⟩; refine ⟨_, rfl, ?_⟩; have n0_ := Aside0.mk (below_step Qa0_ hb); clear HB; have HB := n0_; clear n0_; (try clear hb); (try clear hb2); (try clear hk); (try clear hi)))
 go_ret
 exact ⟨Qh0_, Qa0_⟩
def impl_isData.f (a0 : Int) : Option (Bool) := (impl_within.f a0 1 6).bind fun t302 => (some t302)
set_option maxHeartbeats 8000000 in
set_option maxRecDepth 100000 in
theorem impl_isData.calls (a0 : Int) (r : Bool) (w : World) (h : impl_isData.f a0 = some r) :
 Calls Tryz.prog 93 #[.int .i64 a0] w fun e w' => e = .returned (.bool r) ∧ Drawn0 w w' := by
 have H : ((impl_within.f a0 1 6).bind fun t302 => (some t302)) = some r := h
 clear h
 replace H := Option.bind_eq_some_iff.mp H
 obtain ⟨t302, A20, H⟩ := H
 try dsimp only at H
 have A2 := Aside0.mk A20
 clear A20
 obtain rfl := Option.some.inj H
 go_enter Tryz.func93, Tryz.ntmps93
 go_wp2_with (first | ((with_reducible refine gate_callee (f := 45) rfl ?_); refine goesL_ (some 4) rfl rfl Tryz.func45 Ql0_ rfl #[.int .i64 a0, .int .i64 1, .int .i64 6] rfl Qb0_ ?_; (with_reducible refine (impl_within.calls a0 1 6 t302 _ A2.out).mono ?_); rintro e w' ⟨rfl, ⟨nd, rfl⟩⟩; refine ⟨_, rfl, ?_⟩))
 go_ret
 exact ⟨Qf0_, Qk0_⟩
def impl_isWidth.f (a0 : Int) : Option (Bool) := (impl_within.f a0 2 12).bind fun t303 => (if t303 = true then (some ((Int.tmod a0 2) == 0)) else (some false))
set_option maxHeartbeats 8000000 in
set_option maxRecDepth 100000 in
theorem impl_isWidth.calls (a0 : Int) (r : Bool) (w : World) (h : impl_isWidth.f a0 = some r) :
 Calls Tryz.prog 94 #[.int .i64 a0] w fun e w' => e = .returned (.bool r) ∧ Drawn0 w w' := by
 have H : ((impl_within.f a0 2 12).bind fun t303 => (if t303 = true then (some ((Int.tmod a0 2) == 0)) else (some false))) = some r := h
 clear h
 replace H := Option.bind_eq_some_iff.mp H
 obtain ⟨t303, A20, H⟩ := H
 try dsimp only at H
 have A2 := Aside0.mk A20
 clear A20
 by_cases c3 : t303 = true
 ·subst c3
  rw [if_pos rfl] at H
  have H1 := H
  clear H
  have H := H1
  clear H1
  obtain rfl := Option.some.inj H
  go_enter Tryz.func94, Tryz.ntmps94
  go_wp2_with (first | ((with_reducible refine gate_callee (f := 45) rfl ?_); refine goesL_ (some 4) rfl rfl Tryz.func45 Ql0_ rfl #[.int .i64 a0, .int .i64 2, .int .i64 12] rfl Qb0_ ?_; (with_reducible refine (impl_within.calls a0 2 12 true _ A2.out).mono ?_); rintro e w' ⟨rfl, ⟨nd, rfl⟩⟩; refine ⟨_, rfl, ?_⟩))
  go_ret
  exact ⟨Qf0_, Qk0_⟩
 ·replace c3 := Bool.eq_false_iff.mpr c3
  subst c3
  rw [if_neg (show ¬ (false = true) by decide)] at H
  have H1 := H
  clear H
  have H := H1
  clear H1
  obtain rfl := Option.some.inj H
  go_enter Tryz.func94, Tryz.ntmps94
  go_wp2_with (first | ((with_reducible refine gate_callee (f := 45) rfl ?_); refine goesL_ (some 4) rfl rfl Tryz.func45 Ql0_ rfl #[.int .i64 a0, .int .i64 2, .int .i64 12] rfl Qb0_ ?_; (with_reducible refine (impl_within.calls a0 2 12 false _ A2.out).mono ?_); rintro e w' ⟨rfl, ⟨nd, rfl⟩⟩; refine ⟨_, rfl, ?_⟩))
  go_ret
  exact ⟨Qf0_, Qk0_⟩
def impl_digits.l0 : Nat → Int → List Int → Int → Option (ByteArray)
 | 0, _, _, _ => none
 | k + 1, x0, x5, x6 => if x6 ≥ 0 then (if 0 ≤ x6 then (if x5.length < 140737488355328 then (impl_digits.l0 k x0 (x5 ++ [(48 + (Go.bits .and .i64 (shr .i64 x0 x6) 1)) % 256]) (wrap64 (x6 - 1))) else (none)) else (none)) else (some (strOfNums x5))
def impl_digits.f (k : Nat) (a0 : Int) (a1 : Int) : Option (ByteArray) := impl_digits.l0 k a0 (([] : List Int)) (wrap64 (a1 - 1))
set_option maxHeartbeats 8000000 in
set_option maxRecDepth 100000 in
theorem impl_digits.calls (k : Nat) (a0 : Int) (a1 : Int) (r : ByteArray) (w : World) (h : impl_digits.f k a0 a1 = some r) :
 Calls Tryz.prog 130 #[.int .i64 a0, .int .i64 a1] w fun e w' => e = .returned (.string r) ∧ Below w.heap.size w w' := by
 have HB := Aside0.mk (Below.refl w.heap.size w)
 have H : (impl_digits.l0 k a0 (([] : List Int)) (wrap64 (a1 - 1))) = some r := h
 clear h
 obtain ⟨y304, hy304⟩ : ∃ y_ : List Int, y_ = (([] : List Int)) := ⟨_, rfl⟩
 replace H : (impl_digits.l0 k a0 y304 (wrap64 (a1 - 1))) = some r := by first | (rw [hy304]; with_reducible exact H) | (have H2_ := (Option.bind_some _ _).symm.trans H; rw [hy304]; with_reducible exact H2_) | (have H2_ := (Option.bind_some _ _).symm.trans H; with_reducible exact H2_) | with_reducible exact H | (rw [hy304]; exact H) | exact H
 have Ny304 := Aside0.mk hy304
 clear hy304
 have H' := Aside0.mk H
 clear H
 go_enter Tryz.func130, Tryz.ntmps130
 go_wp2_with (first | ((with_reducible refine gate_dst (N := 7) rfl ?_); refine Kd.R_lit (Kd.int .u8) _ 5 ?hg (N := 7) ?hd (xs := ([] : List Int)) (inner := []) (ok := fun _ => True) (okp := fun _ => True) ?hr ?hp (fun _ hk => hk) trivial (Below.refl _ _) (Nat.le_refl _) (by simp) ?_; (case hd => rfl); (case hg => rfl); (case hr => exact Qj0_); (case hp => exact (Reps.none _ _)); intro v305 w3 ho4 hb hg_ hnew_; clear hg_ hnew_; (first | rw [← Ny304.out] at ho4 | (simp only [Int.reduceToNat] at ho4; rw [← Ny304.out] at ho4)); have n0_ := Aside0.mk (Kd.R_lower ho4 (below_size Qa0_)); have n1_ := Aside0.mk (below_step Qa0_ hb); clear HB; have HO306 := n0_; have HB := n1_; clear n0_ n1_; clear hb ho4))
 go_loopg [5, 6] k (fun kq v5 v6 w' => ∃ (x5_1 : List Int) (x6_1 : Int), v6 = .int .i64 x6_1 ∧ Aside0 (impl_digits.l0 kq a0 x5_1 x6_1 = some r) ∧ Aside0 (kq ≤ k) ∧ Aside0 (Kd.R (Kd.int .u8) 5 w' w.heap.size (fun _ => True) v5 x5_1) ∧ Aside0 (Below w.heap.size w w'))
 case atStart => exact ⟨(y304), (wrap64 (a1 - 1)), Qf0_, H', ⟨Nat.le_refl _⟩, ⟨Qr_ HO306.out⟩, ⟨Qa0_⟩⟩
 case round =>
  clear H'
  try clear c1
  try clear p2
  obtain ⟨x5_1, x6_1, rfl, HA, HK1, HO_5, HB⟩ := hrel
  cases gk with
  | zero => exact absurd HA.out (by simp [impl_digits.l0])
  | succ k1 =>
   have H := HA.out
   clear HA
   simp only [impl_digits.l0] at H
   by_cases c5 : x6_1 ≥ 0
   ·rw [if_pos c5] at H
    have c5b0 := decide_eq_true c5
    clear c5
    by_cases c6 : 0 ≤ x6_1
    ·rw [if_pos c6] at H
     have c6b0 := eq_true c6
     have c6b1 := decide_eq_true c6
     clear c6
     obtain ⟨ji7, hji7⟩ : ∃ j_ : Int, (shr .i64 a0 x6_1) = j_ := ⟨_, rfl⟩
     replace H : (if x5_1.length < 140737488355328 then (impl_digits.l0 k1 a0 (x5_1 ++ [(48 + (Go.bits .and .i64 (ji7) 1)) % 256]) (wrap64 (x6_1 - 1))) else (none)) = some r := by first | (rw [hji7] at H; exact H) | (simp only [hji7] at H ⊢; exact H)
     have hji7_ : (a0 / 2 ^ min x6_1.toNat 64) = ji7 := hji7
     have hji7z : x6_1 ≤ 64 → (a0 / 2 ^ x6_1.toNat) = ji7 := shr_small hji7
     by_cases c8 : x5_1.length < 140737488355328
     ·rw [if_pos c8] at H
      have LMc8 := Aside0.mk c8
      clear c8
      obtain ⟨y307, hy307⟩ : ∃ y_ : List Int, y_ = (x5_1 ++ [(48 + (Go.bits .and .i64 (ji7) 1)) % 256]) := ⟨_, rfl⟩
      replace H : (impl_digits.l0 k1 a0 y307 (wrap64 (x6_1 - 1))) = some r := by first | (rw [hy307]; with_reducible exact H) | (have H2_ := (Option.bind_some _ _).symm.trans H; rw [hy307]; with_reducible exact H2_) | (have H2_ := (Option.bind_some _ _).symm.trans H; with_reducible exact H2_) | with_reducible exact H | (rw [hy307]; exact H) | exact H
      have Ny307 := Aside0.mk hy307
      clear hy307
      have H' := Aside0.mk H
      clear H
      go_wp2_with (first | ((with_reducible refine gate_builtin (b := .append) (xs := #[.tmp 14, .tmp 21]) rfl ?_); at_builtin; refine Kd.R_append (Kd.int .u8) (w0 := w) w.heap.size rfl (.tmp 14) (.tmp 21) 22 5 (.int .u8 0) 1 rfl Tryz.underlying22 info5 rfl (by decide) (by omega) u5 x5_1 ((48 + (Go.bits .and .i64 (ji7) 1)) % 256) [.int .u8 ((48 + (Go.bits .and .i64 (ji7) 1)) % 256)] (fun _ => True) (fun _ => False) rfl rfl ?aP (fun _ hk => hk.elim) ?aF ?aO ?aB ?aS ?aL ?_; (case aP => exact rfl); (case aB => exact Qa0_); (case aF => exact (fun _ _ => trivial)); (case aO => exact (Qr_ HO_5.out)); (case aS => exact (below_size Qa0_)); (case aL => have := LMc8.out; omega); intro v308 w9 ho hb hg hat; rw [← Ny307.out] at ho; have n0_ := Aside0.mk (hb); have n1_ := Aside0.mk (ho); clear HB; clear HO_5; have HB := n0_; have HO309 := n1_; clear n0_ n1_; clear ho hb hg hat))
      go_roundg k1
      case measure => have := HK1.out; omega
      case rel => exact ⟨(y307), (wrap64 (x6_1 - 1)), Qf0_, H', ⟨Qs0_⟩, ⟨Qr_ HO309.out⟩, ⟨Qa0_⟩⟩
     ·rw [if_neg c8] at H
      exact absurd H (by simp)
    ·rw [if_neg c6] at H
     exact absurd H (by simp)
   ·rw [if_neg c5] at H
    have c5b0 := decide_eq_false c5
    clear c5
    obtain rfl := Option.some.inj H
    have hcv10 := own_string (P := Tryz.prog) Tryz.underlying22 Tryz.underlying5 Tryz.underlying9 (Kd.own_of_R HO_5.out)
    go_wp2
    go_ret
    exact ⟨Qh0_, Qa0_⟩
def strings_Count.f (a0 : ByteArray) (a1 : ByteArray) : Option (Int) := match a1.data.toList with
 | [c] => some (Lib.countByte a0.data.toList c)
 | _ => none
theorem strings_Count.calls (a0 : ByteArray) (a1 : ByteArray) (r : Int) (w : World) (h : strings_Count.f a0 a1 = some r) :
 Calls Tryz.prog 53 #[.string a0, .string a1] w fun e w' => e = .returned (.int .i64 r) ∧ Drawn0 w w' := by
 unfold strings_Count.f at h
 split at h
 ·rename_i c hc
  obtain rfl := Option.some.inj h
  have e : a1 = ⟨#[c]⟩ := ByteArray.ext (Array.ext' hc)
  subst e
  exact (Tryz.strings_Count_one a0 c w).mono fun e w' ⟨he, hw⟩ => ⟨he, hw ▸ Drawn0.refl _⟩
 ·cases h
def impl_disparity.f (a0 : ByteArray) : Option (Int) := (strings_Count.f a0 (⟨#[49]⟩ : ByteArray)).bind fun t310 => (some (wrap64 ((wrap64 (2 * t310)) - (a0.size : Int))))
set_option maxHeartbeats 8000000 in
set_option maxRecDepth 100000 in
theorem impl_disparity.calls (a0 : ByteArray) (r : Int) (w : World) (h : impl_disparity.f a0 = some r) :
 Calls Tryz.prog 131 #[.string a0] w fun e w' => e = .returned (.int .i64 r) ∧ Drawn0 w w' := by
 have H : ((strings_Count.f a0 (⟨#[49]⟩ : ByteArray)).bind fun t310 => (some (wrap64 ((wrap64 (2 * t310)) - (a0.size : Int))))) = some r := h
 clear h
 replace H := Option.bind_eq_some_iff.mp H
 obtain ⟨t310, A20, H⟩ := H
 try dsimp only at H
 have A2 := Aside0.mk A20
 clear A20
 obtain rfl := Option.some.inj H
 go_enter Tryz.func131, Tryz.ntmps131
 go_wp2_with (first | ((with_reducible refine gate_callee (f := 53) rfl ?_); refine goesL_ (some 4) rfl rfl Tryz.func53 Ql0_ rfl #[.string a0, .string (⟨#[49]⟩ : ByteArray)] rfl Qb0_ ?_; (with_reducible refine (strings_Count.calls a0 (⟨#[49]⟩ : ByteArray) t310 _ A2.out).mono ?_); rintro e w' ⟨rfl, ⟨nd, rfl⟩⟩; refine ⟨_, rfl, ?_⟩))
 go_ret
 exact ⟨Qf0_, Qk0_⟩
def impl_wordsOf.l0 : Nat → Int → Int → List ByteArray → Int → Int → Option (List ByteArray)
 | 0, _, _, _, _, _ => none
 | k + 1, x0, x1, x5, x10, x11 => if x11 < x10 then ((impl_digits.f k x11 x0).bind fun t314 => ((impl_disparity.f t314).bind fun t315 => (if t315 = x1 then (if x5.length < 8796093022208 then (impl_wordsOf.l0 k x0 x1 (x5 ++ [t314]) x10 (wrap64 (x11 + 1))) else (none)) else (impl_wordsOf.l0 k x0 x1 x5 x10 (wrap64 (x11 + 1)))))) else (some x5)
def impl_wordsOf.f (k : Nat) (a0 : Int) (a1 : Int) : Option (List ByteArray) := if 0 ≤ a0 then (impl_wordsOf.l0 k a0 a1 (([] : List ByteArray)) (shl .i64 1 a0) 0) else (none)
set_option maxHeartbeats 8000000 in
set_option maxRecDepth 100000 in
theorem impl_wordsOf.calls (k : Nat) (a0 : Int) (a1 : Int) (r : List ByteArray) (w : World) (h : impl_wordsOf.f k a0 a1 = some r) :
 Calls Tryz.prog 95 #[.int .i64 a0, .int .i64 a1] w fun e w' => ∃ v0_ : Value, e = .returned (v0_) ∧ Kd.R Kd.string 9 w' w.heap.size (fun _ => True) v0_ r ∧ Below w.heap.size w w' := by
 have HB := Aside0.mk (Below.refl w.heap.size w)
 have H : (if 0 ≤ a0 then (impl_wordsOf.l0 k a0 a1 (([] : List ByteArray)) (shl .i64 1 a0) 0) else (none)) = some r := h
 clear h
 obtain ⟨y311, hy311⟩ : ∃ y_ : List ByteArray, y_ = (([] : List ByteArray)) := ⟨_, rfl⟩
 replace H : (if 0 ≤ a0 then (impl_wordsOf.l0 k a0 a1 y311 (shl .i64 1 a0) 0) else (none)) = some r := by first | (rw [hy311]; with_reducible exact H) | (have H2_ := (Option.bind_some _ _).symm.trans H; rw [hy311]; with_reducible exact H2_) | (have H2_ := (Option.bind_some _ _).symm.trans H; with_reducible exact H2_) | with_reducible exact H | (rw [hy311]; exact H) | exact H
 have Ny311 := Aside0.mk hy311
 clear hy311
 by_cases c3 : 0 ≤ a0
 ·rw [if_pos c3] at H
  have c3b0 := eq_true c3
  have c3b1 := decide_eq_true c3
  clear c3
  obtain ⟨ji4, hji4⟩ : ∃ j_ : Int, (shl .i64 1 a0) = j_ := ⟨_, rfl⟩
  replace H : (impl_wordsOf.l0 k a0 a1 y311 ji4 0) = some r := by first | (rw [hji4] at H; exact H) | (simp only [hji4] at H ⊢; exact H)
  have hji4_ : (IntKind.i64.wrap (1 * 2 ^ min a0.toNat 64)) = ji4 := hji4
  have hji4z : a0 ≤ 64 → (IntKind.i64.wrap (1 * 2 ^ a0.toNat)) = ji4 := shl_small hji4
  have hji4u : (IntKind.i64.wrap (2 ^ min a0.toNat 64)) = ji4 := by have h_ := hji4_; rw [Int.one_mul] at h_; exact h_
  have hji4v : a0 ≤ 64 → (IntKind.i64.wrap (2 ^ a0.toNat)) = ji4 := fun hle_ => by have h_ := hji4z hle_; rw [Int.one_mul] at h_; exact h_
  have hji4y : (wrap64 (1 * 2 ^ min a0.toNat 64)) = ji4 := (i64_w _).symm.trans hji4_
  have hji4x : a0 ≤ 64 → (wrap64 (1 * 2 ^ a0.toNat)) = ji4 := fun h_ => (i64_w _).symm.trans (hji4z h_)
  have H' := Aside0.mk H
  clear H
  go_enter Tryz.func95, Tryz.ntmps95
  go_wp2_with (first | ((with_reducible refine gate_dst (N := 8) rfl ?_); refine Kd.R_lit Kd.string _ 9 ?hg (N := 8) ?hd (xs := ([] : List ByteArray)) (inner := []) (ok := fun _ => True) (okp := fun _ => True) ?hr ?hp (fun _ hk => hk) trivial (Below.refl _ _) (Nat.le_refl _) (by simp) ?_; (case hd => rfl); (case hg => rfl); (case hr => exact Qj0_); (case hp => exact (Reps.none _ _)); intro v312 w5 ho6 hb hg_ hnew_; clear hg_ hnew_; (first | rw [← Ny311.out] at ho6 | (simp only [Int.reduceToNat] at ho6; rw [← Ny311.out] at ho6)); have n0_ := Aside0.mk (Kd.R_lower ho6 (below_size Qa0_)); have n1_ := Aside0.mk (below_step Qa0_ hb); clear HB; have HO313 := n0_; have HB := n1_; clear n0_ n1_; clear hb ho6))
  go_loopg [5, 11] k (fun kq v5 v11 w' => ∃ (x5_1 : List ByteArray) (x11_1 : Int), v11 = .int .i64 x11_1 ∧ Aside0 (impl_wordsOf.l0 kq a0 a1 x5_1 ji4 x11_1 = some r) ∧ Aside0 (kq ≤ k) ∧ Aside0 (Kd.R Kd.string 9 w' w.heap.size (fun _ => True) v5 x5_1) ∧ Aside0 (Below w.heap.size w w'))
  case atStart => exact ⟨(y311), (0), Qf0_, H', ⟨Nat.le_refl _⟩, ⟨Qr_ HO313.out⟩, ⟨Qa0_⟩⟩
  case round =>
   clear H'
   try clear p2
   try clear c3
   try clear c3b0
   try clear c3b1
   try clear p6
   obtain ⟨x5_1, x11_1, rfl, HA, HK1, HO_5, HB⟩ := hrel
   cases gk with
   | zero => exact absurd HA.out (by simp [impl_wordsOf.l0])
   | succ k1 =>
    have H := HA.out
    clear HA
    simp only [impl_wordsOf.l0] at H
    by_cases c7 : x11_1 < ji4
    ·rw [if_pos c7] at H
     have c7b0 := decide_eq_true c7
     clear c7
     replace H := Option.bind_eq_some_iff.mp H
     obtain ⟨t314, A80, H⟩ := H
     try dsimp only at H
     have A8 := Aside0.mk A80
     clear A80
     replace H := Option.bind_eq_some_iff.mp H
     obtain ⟨t315, A90, H⟩ := H
     try dsimp only at H
     have A9 := Aside0.mk A90
     clear A90
     by_cases c10 : t315 = a1
     ·rw [if_pos c10] at H
      have c10b0 := beq_iff_eq.mpr c10
      have c10b1 := bne_eq_false_iff_eq.mpr c10
      clear c10
      by_cases c11 : x5_1.length < 8796093022208
      ·rw [if_pos c11] at H
       have LMc11 := Aside0.mk c11
       clear c11
       obtain ⟨y316, hy316⟩ : ∃ y_ : List ByteArray, y_ = (x5_1 ++ [t314]) := ⟨_, rfl⟩
       replace H : (impl_wordsOf.l0 k1 a0 a1 y316 ji4 (wrap64 (x11_1 + 1))) = some r := by first | (rw [hy316]; with_reducible exact H) | (have H2_ := (Option.bind_some _ _).symm.trans H; rw [hy316]; with_reducible exact H2_) | (have H2_ := (Option.bind_some _ _).symm.trans H; with_reducible exact H2_) | with_reducible exact H | (rw [hy316]; exact H) | exact H
       have Ny316 := Aside0.mk hy316
       clear hy316
       have H' := Aside0.mk H
       clear H
       go_wp2_with (first | ((with_reducible refine gate_callee (f := 130) rfl ?_); refine goesL_ (some 16) rfl rfl Tryz.func130 Ql0_ rfl #[.int .i64 x11_1, .int .i64 a0] rfl Qb0_ ?_; (with_reducible refine (impl_digits.calls k1 x11_1 a0 t314 _ A8.out).mono ?_); rintro e w12 ⟨rfl, hb⟩; refine ⟨_, rfl, ?_⟩; have n0_ := Aside0.mk (Kd.R_below (Qr_ HO_5.out) hb); have n1_ := Aside0.mk (below_step Qa0_ hb); clear HO_5; clear HB; have HO_5 := n0_; have HB := n1_; clear n0_ n1_; (try clear hb); (try clear hb2); (try clear hk); (try clear hi)) | ((with_reducible refine gate_callee (f := 131) rfl ?_); refine goesL_ (some 18) rfl rfl Tryz.func131 Ql0_ rfl #[.string t314] rfl Qb0_ ?_; (with_reducible refine (impl_disparity.calls t314 t315 _ A9.out).mono ?_); rintro e w' ⟨rfl, ⟨nd, rfl⟩⟩; refine ⟨_, rfl, ?_⟩) | ((with_reducible refine gate_builtin (b := .append) (xs := #[.tmp 21, .tmp 23]) rfl ?_); at_builtin; refine Kd.R_append Kd.string (w0 := w) w.heap.size rfl (.tmp 21) (.tmp 23) 24 9 (.string ⟨#[]⟩) 16 rfl Tryz.underlying24 info9 rfl (by decide) (by omega) u5 x5_1 t314 [.string t314] (fun _ => True) (fun _ => False) rfl rfl ?aP (fun _ hk => hk.elim) ?aF ?aO ?aB ?aS ?aL ?_; (case aP => exact rfl); (case aB => exact Qa0_); (case aF => exact (fun _ _ => trivial)); (case aO => exact (Qr_ HO_5.out)); (case aS => exact (below_size Qa0_)); (case aL => have := LMc11.out; omega); intro v317 w13 ho hb hg hat; rw [← Ny316.out] at ho; have n0_ := Aside0.mk (hb); have n1_ := Aside0.mk (ho); clear HB; clear HO_5; have HB := n0_; have HO318 := n1_; clear n0_ n1_; clear ho hb hg hat))
       go_roundg k1
       case measure => have := HK1.out; omega
       case rel => exact ⟨(y316), (wrap64 (x11_1 + 1)), Qf0_, H', ⟨Qs0_⟩, ⟨Qr_ HO318.out⟩, ⟨Qa0_⟩⟩
      ·rw [if_neg c11] at H
       exact absurd H (by simp)
     ·rw [if_neg c10] at H
      have c10b0 := beq_eq_false_iff_ne.mpr c10
      have c10b1 := bne_iff_ne.mpr c10
      have H' := Aside0.mk H
      clear H
      go_wp2_with (first | ((with_reducible refine gate_callee (f := 130) rfl ?_); refine goesL_ (some 16) rfl rfl Tryz.func130 Ql0_ rfl #[.int .i64 x11_1, .int .i64 a0] rfl Qb0_ ?_; (with_reducible refine (impl_digits.calls k1 x11_1 a0 t314 _ A8.out).mono ?_); rintro e w14 ⟨rfl, hb⟩; refine ⟨_, rfl, ?_⟩; have n0_ := Aside0.mk (Kd.R_below (Qr_ HO_5.out) hb); have n1_ := Aside0.mk (below_step Qa0_ hb); clear HO_5; clear HB; have HO_5 := n0_; have HB := n1_; clear n0_ n1_; (try clear hb); (try clear hb2); (try clear hk); (try clear hi)) | ((with_reducible refine gate_callee (f := 131) rfl ?_); refine goesL_ (some 18) rfl rfl Tryz.func131 Ql0_ rfl #[.string t314] rfl Qb0_ ?_; (with_reducible refine (impl_disparity.calls t314 t315 _ A9.out).mono ?_); rintro e w' ⟨rfl, ⟨nd, rfl⟩⟩; refine ⟨_, rfl, ?_⟩))
      go_roundg k1
      case measure => have := HK1.out; omega
      case rel => exact ⟨(x5_1), (wrap64 (x11_1 + 1)), Qf0_, H', ⟨Qs0_⟩, ⟨Qr_ HO_5.out⟩, ⟨Qa0_⟩⟩
    ·rw [if_neg c7] at H
     have c7b0 := decide_eq_false c7
     clear c7
     obtain rfl := Option.some.inj H
     go_wp2
     go_ret
     exact ⟨_, by first | rfl | (simp [errW_none, errW_some] <;> rfl) | (simp only [← hji4]; first | rfl | (simp [errW_none, errW_some] <;> rfl)) | (simp [*, errW_none, errW_some] <;> rfl), Qr_ HO_5.out, Qa0_⟩
 ·rw [if_neg c3] at H
  exact absurd H (by simp)
end Go.Proofs.YtdaeioklcilipaaGreatDoor.QFnConsole
