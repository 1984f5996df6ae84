/- Made small by wip/pack.py: lemmas and contracts that the law's row leans on. -/
import Derived.Test.YtbjmbfjbjkhhdaaGreatDoorProg
import Derived.Test.YtbjmbfjbjkhhdaaGreatDoorZFnTopOfAll12
import Derived.Laws.CopyOwn
import Derived.Laws.Cover1
namespace Go.Proofs.YtbjmbfjbjkhhdaaGreatDoorW.PrintWords
open Go.RowKit
set_option linter.unusedVariables false
set_option linter.unusedSimpArgs false
def conAt (w : World) (base b : Nat) (v0 v1 : Value) (ns ls : List ByteArray) : Prop :=
 base ≤ b ∧ w.heap[b]? = some (.cells #[v0, v1] 39 (0, 0)) ∧ Kd.R Kd.string 9 w base (fun _ => True) v0 ns ∧ Kd.R Kd.string 9 w base (fun _ => True) v1 ls ∧ ∀ k, v0.ownBlock = some k → v1.ownBlock ≠ some k
def conKept (w w' : World) (b : Nat) (v0 v1 : Value) : Prop := ∀ k, k < w.heap.size → k ≠ b → v0.ownBlock ≠ some k → v1.ownBlock ≠ some k → w'.heap[k]? = w.heap[k]?
def conNew (w : World) (v v' : Value) : Prop := ∀ k, v'.ownBlock = some k → v.ownBlock = some k ∨ w.heap.size ≤ k
theorem conNew_refl (w : World) (v : Value) : conNew w v v := fun _ h => .inl h
theorem str_row {w w1 : World} {base : Nat} {v : Value} {xs : List ByteArray} (h : Kd.R Kd.string 9 w base (fun _ => True) v xs) (hm : ∀ k, v.ownBlock = some k → w1.heap[k]? = w.heap[k]?) : Kd.R Kd.string 9 w1 base (fun _ => True) v xs :=
 Kd.R_of_own (own_move (Kd.own_of_R h) hm) (fun _ _ => trivial)
theorem str_lt {w : World} {base : Nat} {v : Value} {xs : List ByteArray} (h : Kd.R Kd.string 9 w base (fun _ => True) v xs) : ∀ k, v.ownBlock = some k → k < w.heap.size := fun k hk => own_lt (Kd.own_of_R h) k hk
theorem str_base {w : World} {base : Nat} {v : Value} {xs : List ByteArray} (h : Kd.R Kd.string 9 w base (fun _ => True) v xs) : ∀ k, v.ownBlock = some k → base ≤ k := fun k hk => own_base (Kd.own_of_R h) k hk
theorem str_ne {w : World} {base b t : Nat} {v : Value} {xs : List ByteArray} {cells : Array Value} (h : Kd.R Kd.string 9 w base (fun _ => True) v xs) (hb : w.heap[b]? = some (.cells cells t (0, 0))) (ht : 9 ≠ t) : v.ownBlock ≠ some b := fun e => Kd.R_ne h hb ht e.symm
theorem con_step {w w1 : World} {base b : Nat} {v0 v1 : Value} {ns ls : List ByteArray} (h : conAt w base b v0 v1 ns ls) (hm : ∀ k, k < w.heap.size → w1.heap[k]? = w.heap[k]?) : conAt w1 base b v0 v1 ns ls := by
 obtain ⟨h1, h2, h3, h4, h5⟩ := h
 have hb : b < w.heap.size := by
  rcases Nat.lt_or_ge b w.heap.size with h6 | h6
  ·exact h6
  ·rw [Array.getElem?_eq_none h6] at h2
   cases h2
 exact ⟨h1, (hm b hb).trans h2, str_row h3 (fun k hk => hm k (str_lt h3 k hk)), str_row h4 (fun k hk => hm k (str_lt h4 k hk)), h5⟩
theorem con_below {w w1 : World} {base b : Nat} {v0 v1 : Value} {ns ls : List ByteArray} (h : conAt w base b v0 v1 ns ls) (hb : Below w.heap.size w w1) : conAt w1 base b v0 v1 ns ls := con_step h (fun k hk => hb.block k hk)
theorem con_blt {w : World} {base b : Nat} {v0 v1 : Value} {ns ls : List ByteArray} (h : conAt w base b v0 v1 ns ls) : b < w.heap.size := by
 rcases Nat.lt_or_ge b w.heap.size with h6 | h6
 ·exact h6
 ·have h2 := h.2.1
  rw [Array.getElem?_eq_none h6] at h2
  cases h2
theorem con_put0 {w0 w wa w2 w3 : World} {b : Nat} {v0 v1 v0' : Value} {ns ls ns' : List ByteArray} {ok : Nat → Prop} (hC : conAt w w0.heap.size b v0 v1 ns ls) (hW : Below w0.heap.size w0 w) (hB : Below w.heap.size w wa) (hg : wa.grownBy w2 v0.ownBlock) (ho : Kd.R Kd.string 9 w2 w0.heap.size ok v0' ns') (hat : v0'.ownBlock = v0.ownBlock ∨ ∃ g, v0'.ownBlock = some g ∧ wa.heap.size ≤ g) (hw : w3 = w2.setCell ⟨b, 0, none⟩ v0') :
 conAt w3 w0.heap.size b v0' v1 ns' ls ∧ conKept w w3 b v0 v1 ∧ conNew w v0 v0' ∧ Below w0.heap.size w0 w3 ∧ w.heap.size ≤ w3.heap.size := by
 have hb := con_blt hC
 obtain ⟨h1, h2, h3, h4, h5⟩ := hC
 have ho' : Kd.R Kd.string 9 w2 w0.heap.size (fun _ => True) v0' ns' := Kd.R_mono ho (fun _ _ => trivial)
 have hk2 : ∀ k, k < w.heap.size → some k ≠ v0.ownBlock → w2.heap[k]? = w.heap[k]? := fun k hk hne => (hg.block k (Nat.lt_of_lt_of_le hk hB.size) hne).trans (hB.block k hk)
 have hb2 : w2.heap[b]? = some (.cells #[v0, v1] 39 (0, 0)) := (hk2 b hb (fun e => str_ne h3 h2 (by decide) e.symm)).trans h2
 have hk : ∀ k, k ≠ b → w3.heap[k]? = w2.heap[k]? := fun k hk => by rw [hw]; exact Below.heap_setCell _ _ _ k hk
 have hsz : w.heap.size ≤ w3.heap.size := by rw [hw]; simpa [World.setCell] using Nat.le_trans hB.size hg.size
 refine ⟨⟨h1, by rw [hw]; exact blk_put hb2 0 v0' rfl, str_row ho' (fun k h6 => hk k (fun e => str_ne ho' hb2 (by decide) (e ▸ h6))), str_row h4 (fun k h6 => (hk k (fun e => str_ne h4 h2 (by decide) (e ▸ h6))).trans (hk2 k (str_lt h4 k h6) (fun e => h5 k e.symm h6))), fun k h6 h7 => ?_⟩, fun k h6 h7 h8 h9 => (hk k h7).trans (hk2 k h6 (fun e => h8 e.symm)), fun k h6 => ?_, ?_, hsz⟩
 ·rcases hat with h8 | ⟨g, h8, h9⟩
  ·exact h5 k (h8.symm.trans h6) h7
  ·rw [h6] at h8
   cases h8
   have := str_lt h4 k h7
   have := hB.size
   omega
 ·rcases hat with h8 | ⟨g, h8, h9⟩
  ·exact .inl (h8.symm.trans h6)
  ·rw [h6] at h8
   cases h8
   exact .inr (Nat.le_trans hB.size h9)
 ·rw [hw]
  exact ((below_step hW hB).grown hg (Nat.le_trans hW.size hB.size) (fun k e => str_base h3 k e)).setCell h1 _
theorem con_put1 {w0 w wa w2 w3 : World} {b : Nat} {v0 v1 v1' : Value} {ns ls ls' : List ByteArray} {ok : Nat → Prop} (hC : conAt w w0.heap.size b v0 v1 ns ls) (hW : Below w0.heap.size w0 w) (hB : Below w.heap.size w wa) (hg : wa.grownBy w2 v1.ownBlock) (ho : Kd.R Kd.string 9 w2 w0.heap.size ok v1' ls') (hat : v1'.ownBlock = v1.ownBlock ∨ ∃ g, v1'.ownBlock = some g ∧ wa.heap.size ≤ g) (hw : w3 = w2.setCell ⟨b, 1, none⟩ v1') :
 conAt w3 w0.heap.size b v0 v1' ns ls' ∧ conKept w w3 b v0 v1 ∧ conNew w v1 v1' ∧ Below w0.heap.size w0 w3 ∧ w.heap.size ≤ w3.heap.size := by
 have hb := con_blt hC
 obtain ⟨h1, h2, h3, h4, h5⟩ := hC
 have ho' : Kd.R Kd.string 9 w2 w0.heap.size (fun _ => True) v1' ls' := Kd.R_mono ho (fun _ _ => trivial)
 have hk2 : ∀ k, k < w.heap.size → some k ≠ v1.ownBlock → w2.heap[k]? = w.heap[k]? := fun k hk hne => (hg.block k (Nat.lt_of_lt_of_le hk hB.size) hne).trans (hB.block k hk)
 have hb2 : w2.heap[b]? = some (.cells #[v0, v1] 39 (0, 0)) := (hk2 b hb (fun e => str_ne h4 h2 (by decide) e.symm)).trans h2
 have hk : ∀ k, k ≠ b → w3.heap[k]? = w2.heap[k]? := fun k hk => by rw [hw]; exact Below.heap_setCell _ _ _ k hk
 have hsz : w.heap.size ≤ w3.heap.size := by rw [hw]; simpa [World.setCell] using Nat.le_trans hB.size hg.size
 refine ⟨⟨h1, by rw [hw]; exact blk_put hb2 1 v1' rfl, str_row h3 (fun k h6 => (hk k (fun e => str_ne h3 h2 (by decide) (e ▸ h6))).trans (hk2 k (str_lt h3 k h6) (fun e => h5 k h6 e.symm))), str_row ho' (fun k h6 => hk k (fun e => str_ne ho' hb2 (by decide) (e ▸ h6))), fun k h6 h7 => ?_⟩, fun k h6 h7 h8 h9 => (hk k h7).trans (hk2 k h6 (fun e => h9 e.symm)), fun k h6 => ?_, ?_, hsz⟩
 ·rcases hat with h8 | ⟨g, h8, h9⟩
  ·exact h5 k h6 (h8.symm.trans h7)
  ·rw [h7] at h8
   cases h8
   have := str_lt h3 k h6
   have := hB.size
   omega
 ·rcases hat with h8 | ⟨g, h8, h9⟩
  ·exact .inl (h8.symm.trans h6)
  ·rw [h6] at h8
   cases h8
   exact .inr (Nat.le_trans hB.size h9)
 ·rw [hw]
  exact ((below_step hW hB).grown hg (Nat.le_trans hW.size hB.size) (fun k e => str_base h4 k e)).setCell h1 _
theorem conNew_trans {w w1 : World} {v v1 v2 : Value} (h : conNew w v v1) (hs : w.heap.size ≤ w1.heap.size) (h2 : conNew w1 v1 v2) : conNew w v v2 := fun k hk => by
 rcases h2 k hk with h3 | h3
 ·exact h k h3
 ·exact .inr (Nat.le_trans hs h3)
theorem conKept_trans {w w1 w2 : World} {b : Nat} {v0 v1 u0 u1 : Value} (h : conKept w w1 b v0 v1) (hs : w.heap.size ≤ w1.heap.size) (n0 : conNew w v0 u0) (n1 : conNew w v1 u1) (h2 : conKept w1 w2 b u0 u1) : conKept w w2 b v0 v1 := fun k h3 h4 h5 h6 =>
 (h2 k (Nat.lt_of_lt_of_le h3 hs) h4 (fun e => by rcases n0 k e with h7 | h7; exact h5 h7; omega) (fun e => by rcases n1 k e with h7 | h7; exact h6 h7; omega)).trans (h k h3 h4 h5 h6)
theorem conKept_below {w w1 : World} {b : Nat} {v0 v1 : Value} (h : Below w.heap.size w w1) : conKept w w1 b v0 v1 := fun k h3 _ _ _ => h.block k h3
theorem con_slices {w : World} {base b : Nat} {v0 v1 : Value} {ns ls : List ByteArray} (h : conAt w base b v0 v1 ns ls) : ∃ A0 c0 A1 c1, v0 = .slice A0 ns.length c0 ∧ v1 = .slice A1 ls.length c1 ∧ ns.length ≤ c0 ∧ ls.length ≤ c1 ∧ Kd.C Kd.string w A0 ns.length ns ∧ Kd.C Kd.string w A1 ls.length ls := by
 obtain ⟨A0, c0, e0, hl0, hC0⟩ := Kd.R_reads h.2.2.1
 obtain ⟨A1, c1, e1, hl1, hC1⟩ := Kd.R_reads h.2.2.2.1
 exact ⟨A0, c0, A1, c1, e0, e1, hl0, hl1, hC0, hC1⟩
def dcI (w w' : World) (ga : Nat) (cs : Array Value) (g : Nat) (m0 m1 : Int) (v2 v3 : Value) (l2 l3 : List ByteArray) : Prop :=
 Below w.heap.size w w' ∧ w'.heap[ga]? = some (.cells cs 105 (0, 0)) ∧ w'.heap[g]? = some (.cells #[.int .i64 m0, .int .i64 m1, v2, v3] 25 (0, 0)) ∧ Kd.R Kd.string 9 w' w.heap.size (fun _ => True) v2 l2 ∧ Kd.R Kd.string 9 w' w.heap.size (fun _ => True) v3 l3
theorem dc_lt {w : World} {g : Nat} {o : Obj} (h : w.heap[g]? = some o) : g < w.heap.size := by
 rcases Nat.lt_or_ge g w.heap.size with h6 | h6
 ·exact h6
 ·rw [Array.getElem?_eq_none h6] at h
  cases h
theorem dc_row {w1 w2 : World} {base : Nat} {v : Value} {xs : List ByteArray} (h : Kd.R Kd.string 9 w1 base (fun _ => True) v xs) (hm : ∀ (k : Nat) (c : Array Value), w1.heap[k]? = some (.cells c 9 (0, 0)) → w2.heap[k]? = w1.heap[k]?) : Kd.R Kd.string 9 w2 base (fun _ => True) v xs := by
 refine Kd.R_of_own (own_move (Kd.own_of_R h) (fun k hk => ?_)) h.1
 obtain ⟨c, hc⟩ := own_typed (Kd.own_of_R h) k hk
 exact hm k c hc
theorem dcI.below {w w1 w2 : World} {ga : Nat} {cs : Array Value} {g : Nat} {m0 m1 : Int} {v2 v3 : Value} {l2 l3 : List ByteArray} (h : dcI w w1 ga cs g m0 m1 v2 v3 l2 l3) (hb : Below w1.heap.size w1 w2) : dcI w w2 ga cs g m0 m1 v2 v3 l2 l3 := by
 obtain ⟨h1, h2, h3, h4, h5⟩ := h
 have hm : ∀ (k : Nat) (c : Array Value), w1.heap[k]? = some (.cells c 9 (0, 0)) → w2.heap[k]? = w1.heap[k]? := fun k c hc => hb.block k (dc_lt hc)
 exact ⟨below_step h1 hb, (hb.block ga (dc_lt h2)).trans h2, (hb.block g (dc_lt h3)).trans h3, dc_row h4 hm, dc_row h5 hm⟩
theorem dcI.made {w w1 w2 : World} {ga : Nat} {cs : Array Value} {g : Nat} {m0 m1 : Int} {v2 v3 : Value} {l2 l3 : List ByteArray} (hw : Below w.heap.size w w1) (ha : w1.heap[ga]? = some (.cells cs 105 (0, 0))) (hg : w1.heap[g]? = some (.cells #[.int .i64 0, .int .i64 0, .slice none 0 0, .slice none 0 0] 25 (0, 0))) (hgw : w.heap.size ≤ g) (r2 : Kd.R Kd.string 9 w1 w.heap.size (fun _ => True) v2 l2) (r3 : Kd.R Kd.string 9 w1 w.heap.size (fun _ => True) v3 l3)
 (he : w2 = (((w1.setCell ⟨g, 0, none⟩ (.int .i64 m0)).setCell ⟨g, 1, none⟩ (.int .i64 m1)).setCell ⟨g, 2, none⟩ v2).setCell ⟨g, 3, none⟩ v3) : dcI w w2 ga cs g m0 m1 v2 v3 l2 l3 := by
 have hs2 : ∀ k, k ≠ g → w2.heap[k]? = w1.heap[k]? := fun k hk => by
  rw [he]
  exact (Below.heap_setCell _ _ _ k hk).trans ((Below.heap_setCell _ _ _ k hk).trans ((Below.heap_setCell _ _ _ k hk).trans (Below.heap_setCell _ _ _ k hk)))
 have hs1 : w2.heap[g]? = some (.cells #[.int .i64 m0, .int .i64 m1, v2, v3] 25 (0, 0)) := by
  rw [he]
  exact blk_put (blk_put (blk_put (blk_put hg 0 _ rfl) 1 _ rfl) 2 _ rfl) 3 _ rfl
 have hm : ∀ (k : Nat) (c : Array Value), w1.heap[k]? = some (.cells c 9 (0, 0)) → w2.heap[k]? = w1.heap[k]? := fun k c hc => hs2 k (blk_ne hc hg (by decide))
 refine ⟨?_, (hs2 ga (blk_ne ha hg (by decide))).trans ha, hs1, dc_row r2 hm, dc_row r3 hm⟩
 rw [he]
 exact (((hw.setCell hgw _).setCell hgw _).setCell hgw _).setCell hgw _
end Go.Proofs.YtbjmbfjbjkhhdaaGreatDoorW.PrintWords
