/- A text of this claim, made small by a program of this session (wip/pack.py): lemmas and contracts that the law's row leans on. -/
import Derived.Test.YtabppnjmdlaohaaGreatDoorZFnSynchronised25
import Derived.Test.YtabppnjmdlaohaaGreatDoorZFnSynchronised26
import Derived.Test.YtabppnjmdlaohaaGreatDoorZFnSynchronised27
namespace Go.Proofs.YtabppnjmdlaohaaGreatDoor.QFnSynchronised
open Go.RowKit Go.Proofs.YtabppnjmdlaohaaGreatDoorW.PrintWords Go.Proofs.YtabppnjmdlaohaaGreatDoorW.PrintLast Go.Proofs.YtabppnjmdlaohaaGreatDoorW.PrintMore
attribute [local go_sem] max2_int min2_int max_two min_two max_three min_three max_four min_four
set_option linter.unusedVariables false
set_option linter.unusedSimpArgs false
def joinT (xs : List ByteArray) (sep : ByteArray) : ByteArray := ⟨(Lib.join (xs.map (·.data.toList)) sep.data.toList).toArray⟩
def strings_Join.f (l0 : List ByteArray) (a1 : ByteArray) : Option (ByteArray) := if l0.length ≤ 140737488355328 ∧ (joinT l0 a1).size ≤ 140737488355328 then some (joinT l0 a1) else none
theorem strings_Join.calls (A0 : Option Addr) (c0 : Nat) (l0 : List ByteArray) (a1 : ByteArray) (r : ByteArray) (w : World) (hr0 : Kd.C Kd.string w A0 l0.length l0) (hc0 : l0.length ≤ c0) (h : strings_Join.f l0 a1 = some r) :
 Calls Tryz.prog 19 #[.slice A0 l0.length c0, .string a1] w fun e w' => e = .returned (.string r) ∧ Below w.heap.size w w' := by
 unfold strings_Join.f at h
 by_cases hl : l0.length ≤ 140737488355328 ∧ (joinT l0 a1).size ≤ 140737488355328
 ·rw [if_pos hl] at h
  obtain rfl := Option.some.inj h
  by_cases h0 : l0.length = 0
  ·have hnil : l0 = [] := List.length_eq_zero_iff.1 h0
   subst hnil
   refine (Tryz.strings_Join_none A0 c0 a1 w).mono fun e w' ⟨he, hw⟩ => ?_
   subst hw
   exact ⟨he, Below.refl _ _⟩
  ·obtain ⟨⟨bk, o, sp⟩, hA, hx⟩ := Kd.at_string hr0 0 (by decide) (by omega)
   subst hA
   have hx0 : w.cell? ⟨bk, o, sp⟩ = some (.string (rdOf ByteArray.empty l0 0)) := by simpa [Addr.add] using hx
   cases sp with
   | some s =>
    exfalso
    simp only [World.cell?] at hx0
    split at hx0
    ·exact absurd hx0 (by simp)
    ·exact absurd hx0 (by simp)
   | none =>
    have hcell : ∀ (j : Nat) x, l0[j]? = some x → w.cell? ⟨bk, o + j, none⟩ = some (.string x) := by
     intro j x hj
     obtain ⟨hjl, rfl⟩ := List.getElem?_eq_some_iff.1 hj
     obtain ⟨ad2, hA2, hx2⟩ := Kd.at_string hr0 (j : Int) (by omega) (by omega)
     injection hA2 with hA2
     subst hA2
     have e : rdOf ByteArray.empty l0 (j : Int) = l0[j] := by
      unfold rdOf
      rw [Int.toNat_natCast, List.getD_eq_getElem?_getD, List.getElem?_eq_getElem hjl]; rfl
     rw [e, Int.toNat_natCast] at hx2
     by_cases hj0 : j = 0
     ·subst hj0
      simpa [Addr.add] using hx2
     ·simpa [Addr.add, hj0] using hx2
    have hb : bk < w.heap.size := World.block_lt_of_cell? w _ hx0
    exact Tryz.strings_Join bk o c0 l0 a1 w hcell hb hl.1 hc0 (by have := hl.2; unfold joinT at this; exact this)
 ·rw [if_neg hl] at h
  exact absurd h (by simp)
def impl_read.f (k : Nat) (l0 : List ByteArray) (a1 : ByteArray) (a2 : ByteArray) : Option (ByteArray) := if a1.size + a2.size ≤ 9223372036854775807 then ((slices_Contains_string_string.f k l0 (a1 ++ a2)).bind fun t140 => (if t140 = true then (some (⟨#[]⟩ : ByteArray)) else (some (a1 ++ a2)))) else (none)
set_option maxHeartbeats 8000000 in
set_option maxRecDepth 100000 in
theorem impl_read.calls (k : Nat) (A0 : Option Addr) (c0 : Nat) (l0 : List ByteArray) (a1 : ByteArray) (a2 : ByteArray) (r : ByteArray) (w : World) (hr0 : Kd.C Kd.string w A0 l0.length l0) (hc0 : l0.length ≤ c0) (h : impl_read.f k l0 a1 a2 = some r) :
 Calls Tryz.prog 20 #[.slice A0 l0.length c0, .string a1, .string a2] w fun e w' => e = .returned (.string r) ∧ Drawn0 w w' := by
 have HR0 := Aside0.mk hr0
 have HC0 := Aside0.mk hc0
 clear hr0 hc0
 have H : (if a1.size + a2.size ≤ 9223372036854775807 then ((slices_Contains_string_string.f k l0 (a1 ++ a2)).bind fun t140 => (if t140 = true then (some (⟨#[]⟩ : ByteArray)) else (some (a1 ++ a2)))) else (none)) = some r := h
 clear h
 by_cases c4 : a1.size + a2.size ≤ 9223372036854775807
 ·rw [if_pos c4] at H
  have c4b0 := eq_true c4
  have c4b1 : decide (a1.size + a2.size ≤ 9223372036854775807) = true := decide_eq_true c4
  try have c4b2 : (9223372036854775807 < a1.size + a2.size) = False := eq_false (Nat.not_lt.2 c4)
  replace H := Option.bind_eq_some_iff.mp H
  obtain ⟨t140, A50, H⟩ := H
  replace H : (if t140 = true then (some (⟨#[]⟩ : ByteArray)) else (some (a1 ++ a2))) = some r := H
  have A5 := Aside0.mk A50
  clear A50
  by_cases c6 : t140 = true
  ·subst c6
   have H1 : (some (⟨#[]⟩ : ByteArray)) = some r := by rw [if_pos rfl] at H; exact H
   clear H
   have H := H1
   clear H1
   obtain rfl := Option.some.inj H
   go_enter Tryz.func20, Tryz.ntmps20
   go_wp2_with (first | ((with_reducible refine gate_callee (f := 45) rfl ?_); refine goesL_ (some 11) rfl rfl Tryz.func45 (by kernel_rfl) rfl #[.slice A0 l0.length c0, .string (a1 ++ a2)] rfl (by (try simp only [List.map_toArray, List.map_cons, List.map_nil]); first | done | rfl | (simp only [List.length_drop, List.length_take]; rfl)) ?_; (with_reducible refine (slices_Contains_string_string.calls k _ _ l0 (a1 ++ a2) true _ ?side1 ?side2 A5.out).mono ?_); (case side1 => repeat (first | exact HR0.out | (with_reducible refine Kd.C_alloc ?_ _) | (with_reducible refine Kd.C_drewN ?_ _) | (with_reducible refine Kd.C_drew ?_))); (case side2 => exact HC0.out); rintro e w' ⟨rfl, ⟨nd, rfl⟩⟩; refine ⟨_, rfl, ?_⟩))
   go_ret
   exact ⟨by first | rfl | (simp; done) | (simp [*]; done), by repeat (first | exact Drawn0.refl _ | apply Drawn0.step)⟩
  ·replace c6 := Bool.eq_false_iff.mpr c6
   subst c6
   have H1 : (some (a1 ++ a2)) = some r := by rw [if_neg (show ¬ (false = true) by decide)] at H; exact H
   clear H
   have H := H1
   clear H1
   obtain rfl := Option.some.inj H
   go_enter Tryz.func20, Tryz.ntmps20
   go_wp2_with (first | ((with_reducible refine gate_callee (f := 45) rfl ?_); refine goesL_ (some 11) rfl rfl Tryz.func45 (by kernel_rfl) rfl #[.slice A0 l0.length c0, .string (a1 ++ a2)] rfl (by (try simp only [List.map_toArray, List.map_cons, List.map_nil]); first | done | rfl | (simp only [List.length_drop, List.length_take]; rfl)) ?_; (with_reducible refine (slices_Contains_string_string.calls k _ _ l0 (a1 ++ a2) false _ ?side1 ?side2 A5.out).mono ?_); (case side1 => repeat (first | exact HR0.out | (with_reducible refine Kd.C_alloc ?_ _) | (with_reducible refine Kd.C_drewN ?_ _) | (with_reducible refine Kd.C_drew ?_))); (case side2 => exact HC0.out); rintro e w' ⟨rfl, ⟨nd, rfl⟩⟩; refine ⟨_, rfl, ?_⟩))
   go_ret
   exact ⟨by first | rfl | (simp; done) | (simp [*]; done), by repeat (first | exact Drawn0.refl _ | apply Drawn0.step)⟩
 ·rw [if_neg c4] at H
  exact absurd H (by simp)
theorem syInfo : (Tryz.prog.info? 45).map (fun i => (i.zero, i.size, i.bytes)) = some (some (.agg #[.slice none 0 0, .string ⟨#[]⟩]), 2, 40) := by kernel_rfl
def setAt (w : World) (m : Nat) (ks : List ByteArray) : Prop := ∃ n, n ≤ ks.length ∧ w.ownsMap Tryz.prog 9 (plainElem (H := Unit) Tryz.prog 4) m n (Go.Maps.setOf (.lit (.bool true)) (ks.map fun x => .string x.data.toList))
theorem set_made (w : World) : setAt (w.alloc (.map #[] 0)) w.heap.size [] := ⟨0, Nat.le_refl _, World.ownsMap_made _ _ _ _⟩
theorem set_kept {w w1 : World} {m : Nat} {ks : List ByteArray} {row : Option Nat} (h : setAt w m ks) (hg : w.grownBy w1 row) (hne : some m ≠ row) : setAt w1 m ks := by
 obtain ⟨n, h1, h2⟩ := h
 exact ⟨n, h1, h2.kept hg hne⟩
theorem set_lt {w : World} {m : Nat} {ks : List ByteArray} (h : setAt w m ks) : m < w.heap.size := by
 obtain ⟨n, h1, h2⟩ := h
 exact h2.lt
theorem set_below {w w1 : World} {m : Nat} {ks : List ByteArray} (h : setAt w m ks) (hm : w1.heap[m]? = w.heap[m]?) : setAt w1 m ks := by
 obtain ⟨n, h1, es, clock, hb, F, hs, hD⟩ := h
 exact ⟨n, h1, es, clock, hm.trans hb, F, hs, hD⟩
theorem set_put {w : World} {m : Nat} {ks : List ByteArray} (h : setAt w m ks) (hk : ks.length < 1000000) (x : ByteArray) (hx : x.size ≤ maxLen) :
 ∃ w1, (Instr.mapUpdate 43 (.map (some m)) (.string x) (.bool true)).run Tryz.prog w = .ok () w1 ∧ setAt w1 m (ks ++ [x]) ∧ w.grownBy w1 (some m) := by
 obtain ⟨n, h1, h2⟩ := h
 obtain ⟨w1, e1, e2, e3⟩ := h2.update (Go.Maps.string_keyed Tryz.underlying9) Tryz.underlying43 (by unfold maxLen; omega) (key := .string x) (val := .bool true) (kl := .string x.data.toList) (d := .lit (.bool true)) (ps := []) (Go.WideMaps.keyOf_string_mk Tryz.underlying9 hx) (plainElem_bool Tryz.underlying4 true)
 refine ⟨w1, e1, ⟨n + 1, by rw [List.length_append, List.length_singleton]; omega, ?_⟩, e3⟩
 rw [List.map_append, List.map_singleton, Go.Maps.setOf_snoc]
 exact e2
def hasT (ks : List ByteArray) (x : ByteArray) : Bool := ks.any fun y => y.data.toList == x.data.toList
theorem set_fold (x : ByteArray) (z : DataW Unit) : ∀ (ks : List ByteArray) (D : DataW Unit), Go.Maps.IsMap D → (ks.foldl (fun m y => m.put (.string y.data.toList) (.lit (.bool true))) D).atKey (.string x.data.toList) z = if hasT ks x = true then .lit (.bool true) else D.atKey (.string x.data.toList) z
 | [], D, _ => rfl
 | y :: r, D, hD => by
  rw [List.foldl_cons, set_fold x z r _ (hD.put _ _)]
  unfold hasT
  rw [List.any_cons]
  by_cases h : y.data.toList = x.data.toList
  ·rw [h, Go.Maps.atKey_put_same hD (by first | trivial | exact ⟨_, rfl⟩ | simp [Go.WideAt.IsKeyLit]), beq_self_eq_true, Bool.true_or]
   split <;> rfl
  ·rw [Go.Maps.atKey_put_other (fun e => h (by injection e with e; exact e.symm)), beq_eq_false_iff_ne.2 h, Bool.false_or]
theorem set_at (ks : List ByteArray) (x : ByteArray) : (Go.Maps.setOf (H := Unit) (.lit (.bool true)) (ks.map fun x => .string x.data.toList)).atKey (.string x.data.toList) (.lit (.bool false)) = .lit (.bool (hasT ks x)) := by
 unfold Go.Maps.setOf
 rw [List.foldl_map, set_fold x _ ks _ Go.Maps.isMap_empty]
 cases hasT ks x <;> rfl
theorem plain_bool_inv {P : Program} {e : TypeId} (he : P.underlying e = some .bool) {v : Value} {b : Bool} {ps : List MemPlace} (h : plainElem (H := Unit) P e v = some (.lit (.bool b), ps)) : v = .bool b := by
 unfold plainElem at h
 rw [he] at h
 cases v <;> simp at h
 rw [h.1]
theorem set_get {w : World} {m : Nat} {ks : List ByteArray} (h : setAt w m ks) (x : ByteArray) (hx : x.size ≤ maxLen) : (Instr.lookup 43 (.map (some m)) (.string x) false).run Tryz.prog w = .ok (.bool (hasT ks x)) w := by
 obtain ⟨n, h1, h2⟩ := h
 obtain ⟨v, ps, e1, e2⟩ := h2.lookup (Go.Maps.string_keyed Tryz.underlying9) Tryz.underlying43 (z := .bool false) (Tryz.zeroValue4 _) (plainElem_bool Tryz.underlying4 false) (key := .string x) (kl := .string x.data.toList) (Go.WideMaps.keyOf_string_mk Tryz.underlying9 hx)
 rw [set_at] at e2
 have e3 := plain_bool_inv Tryz.underlying4 e2
 subst e3
 exact e1
abbrev pathK : Kd (List ByteArray × ByteArray) := Kd.pair (Kd.slice 9 Kd.string) Kd.string
theorem sy_single {α : Type} {R : α → List Value → Prop} {size : Nat} {p : α} {cs : List Value} (hp : R p cs) (hl : cs.length = size) : Reps R size [p] cs := by
 have := Reps.snoc (Reps.none R size) hp hl
 simpa using this
theorem sy_row {w w1 : World} {base : Nat} {v : Value} {xs : List ByteArray} (h : Kd.R Kd.string 9 w base (fun _ => True) v xs) (hm : ∀ k, v.ownBlock = some k → w1.heap[k]? = w.heap[k]?) : Kd.R Kd.string 9 w1 base (fun _ => True) v xs :=
 Kd.R_of_own (own_move (Kd.own_of_R h) hm) (fun _ _ => trivial)
theorem sy_lt {w : World} {base : Nat} {v : Value} {xs : List ByteArray} (h : Kd.R Kd.string 9 w base (fun _ => True) v xs) : ∀ k, v.ownBlock = some k → k < w.heap.size := fun k hk => own_lt (Kd.own_of_R h) k hk
theorem sy_head {w : World} {base n c : Nat} {ok : Nat → Prop} {a : Option Addr} {q : List ByteArray × ByteArray} {r : List (List ByteArray × ByteArray)} (h : Kd.Q pathK 45 w base ok (.slice a n c) (q :: r)) :
 ∃ (ad : Addr) (v : Value), a = some ad ∧ w.cell? ad = some v ∧ w.cell? ⟨ad.block, ad.off + 1, none⟩ = some (.string q.2) ∧ Kd.R Kd.string 9 w base (fun k => ok k ∧ some k ≠ some ad.block) v q.1 := by
 obtain ⟨h0, inner, hq, hr⟩ := h
 rcases hq.2 with ⟨hn, _⟩ | ⟨g, off, cap, cur, hv, hbase, hb, h1, h2, h3, h4⟩
 ·exact absurd hn (by simp)
 ·injection hv with ha _ _
  subst ha
  obtain ⟨d0, d1, e0, ⟨v, e1, hR⟩, e2⟩ := hr.2 0 q rfl
  have e1' : d0 = [v] := e1
  have e2' : d1 = [.string q.2] := e2
  subst e1'
  subst e2'
  have e0' : (inner.drop 0).take 2 = [v, .string q.2] := by rw [Nat.zero_mul] at e0; exact e0
  rw [List.drop_zero] at e0'
  have hsz : pathK.sz = 2 := rfl
  rw [hsz] at h4
  have hlen : 2 ≤ (q :: r).length * 2 := by rw [List.length_cons]; omega
  have e3 : (cur.toList.drop (off * 2)).take 2 = [v, .string q.2] := by
   rw [← e0', ← h4, List.take_take, Nat.min_eq_left hlen]
  have c0 : cur.toList[off * 2]? = some v := by
   have := congrArg (fun l => l[0]?) e3
   simpa [List.getElem?_take, List.getElem?_drop] using this
  have c1 : cur.toList[off * 2 + 1]? = some (.string q.2) := by
   have := congrArg (fun l => l[1]?) e3
   simpa [List.getElem?_take, List.getElem?_drop] using this
  rw [Array.getElem?_toList] at c0 c1
  refine ⟨_, v, rfl, ?_, ?_, hR⟩
  ·simp only [World.cell?, hsz, hb]
   simpa using c0
  ·simp only [World.cell?, hsz, hb]
   simpa using c1
def SyInv (w w' : World) (m : Nat) (v : Value) (Q : List (List ByteArray × ByteArray)) (keys : List ByteArray) : Prop :=
 Kd.Q pathK 45 w' w.heap.size (fun k => k ≠ m) v Q ∧ setAt w' m keys ∧ Below w.heap.size w w' ∧ w.heap.size ≤ m
theorem SyInv.below {w w1 w2 : World} {m : Nat} {v : Value} {Q : List (List ByteArray × ByteArray)} {keys : List ByteArray} (h : SyInv w w1 m v Q keys) (hb : Below w1.heap.size w1 w2) : SyInv w w2 m v Q keys := by
 obtain ⟨h1, h2, h3, h4⟩ := h
 exact ⟨Kd.Q_below h1 hb, set_below h2 (hb.block m (set_lt h2)), below_step h3 hb, h4⟩
def BInv (w w1 : World) (m : Nat) (v : Value) (Q : List (List ByteArray × ByteArray)) (keys : List ByteArray) (bp : Nat) (A : Option Addr) (c : Nat) (p : List ByteArray × ByteArray) (vl : Value) : Prop :=
 SyInv w w1 m v Q keys ∧ w1.heap[bp]? = some (.cells #[.slice A p.1.length c, .string p.2] 45 (0, 0)) ∧ Kd.V Kd.string 9 w1 w.heap.size (fun k => k ≠ m ∧ some k ≠ v.ownBlock) (.slice A p.1.length c) p.1 ∧ Kd.V Kd.string 9 w1 w.heap.size (fun k => k ≠ m ∧ some k ≠ v.ownBlock) vl [(⟨#[48]⟩ : ByteArray), (⟨#[49]⟩ : ByteArray)] ∧ some bp ≠ v.ownBlock ∧ bp ≠ m
theorem BInv.below {w w1 w2 : World} {m : Nat} {v : Value} {Q : List (List ByteArray × ByteArray)} {keys : List ByteArray} {bp : Nat} {A : Option Addr} {c : Nat} {p : List ByteArray × ByteArray} {vl : Value} (h : BInv w w1 m v Q keys bp A c p vl) (hb : Below w1.heap.size w1 w2) : BInv w w2 m v Q keys bp A c p vl := by
 obtain ⟨h1, h2, h3, h4, h5, h6⟩ := h
 exact ⟨h1.below hb, (hb.block bp (blk_lt h2)).trans h2, Kd.V_below h3 hb, Kd.V_below h4 hb, h5, h6⟩
theorem BInv.put {w w1 w2 : World} {m : Nat} {v : Value} {Q : List (List ByteArray × ByteArray)} {keys keys2 : List ByteArray} {bp : Nat} {A : Option Addr} {c : Nat} {p : List ByteArray × ByteArray} {vl : Value} (h : BInv w w1 m v Q keys bp A c p vl) (hs : setAt w2 m keys2) (hg : w1.grownBy w2 (some m)) : BInv w w2 m v Q keys2 bp A c p vl := by
 obtain ⟨⟨g1, g2, g3, g4⟩, h2, h3, h4, h5, h6⟩ := h
 refine ⟨⟨Kd.Q_grown g1 hg (fun k hk e => hk (by injection e)), hs, g3.grown hg g3.size (fun k e => by cases e; exact g4), g4⟩, (hg.block bp (blk_lt h2) (fun e => h6 (by injection e))).trans h2, Kd.V_grown h3 hg (fun k hk e => hk.1 (by injection e)), Kd.V_grown h4 hg (fun k hk e => hk.1 (by injection e)), h5, h6⟩
theorem BInv.app {w w1 w2 : World} {m : Nat} {v v2 : Value} {Q Q2 : List (List ByteArray × ByteArray)} {keys : List ByteArray} {bp : Nat} {A : Option Addr} {c : Nat} {p : List ByteArray × ByteArray} {vl : Value} (h : BInv w w1 m v Q keys bp A c p vl) (hq : Kd.Q pathK 45 w2 w.heap.size (fun k => k ≠ m) v2 Q2) (hb : Below w.heap.size w w2) (hg : w1.grownBy w2 v.ownBlock) (hat : v2.ownBlock = v.ownBlock ∨ ∃ b, v2.ownBlock = some b ∧ w1.heap.size ≤ b) : BInv w w2 m v2 Q2 keys bp A c p vl := by
 obtain ⟨⟨g1, g2, g3, g4⟩, h2, h3, h4, h5, h6⟩ := h
 refine ⟨⟨hq, set_kept g2 hg (fun e => g1.1 m e.symm rfl), hb, g4⟩, (hg.block bp (blk_lt h2) h5).trans h2, Kd.V_after h3 hg hat, Kd.V_after h4 hg hat, fun e => ?_, h6⟩
 rcases hat with e2 | ⟨b, e2, h7⟩
 ·exact h5 (e.trans e2)
 ·rw [e2] at e
  injection e with e
  have := blk_lt h2
  omega
theorem BInv.start {w w1 w2 w3 : World} {m n c : Nat} {v vl : Value} {Q : List (List ByteArray × ByteArray)} {keys : List ByteArray} {bp : Nat} {A : Option Addr} {p : List ByteArray × ByteArray} (h : SyInv w w1 m v Q keys) (hr : Kd.R Kd.string 9 w1 w.heap.size (fun k => k ≠ m ∧ some k ≠ v.ownBlock) (.slice A p.1.length c) p.1) (hbp : bp = w1.heap.size) (hk : w2.heap[bp]? = some (.cells #[.slice none 0 0, .string (⟨#[]⟩ : ByteArray)] 45 (0, 0))) (hb : Below w1.heap.size w1 w2)
 (hl : Kd.R Kd.string 9 w3 n (fun _ => True) vl [(⟨#[48]⟩ : ByteArray), (⟨#[49]⟩ : ByteArray)]) (hn : w1.heap.size ≤ n) (hb3 : Below (w2.setRow bp #[.slice A p.1.length c, .string p.2]).heap.size (w2.setRow bp #[.slice A p.1.length c, .string p.2]) w3) : BInv w w3 m v Q keys bp A c p vl := by
 have hlt := blk_lt hk
 have hsz : (w2.setRow bp #[.slice A p.1.length c, .string p.2]).heap.size = w2.heap.size := size_setRow _ _ _
 have hb2 : Below w1.heap.size w1 w3 := below_step (below_setRow hb (Nat.le_of_eq hbp.symm) _) hb3
 obtain ⟨g1, g2, g3, g4⟩ := h
 refine ⟨SyInv.below ⟨g1, g2, g3, g4⟩ hb2, (hb3.block bp (by omega)).trans (setRow_heap _ _ _ _ _ _ hk), Kd.V_below (Kd.R_V hr) hb2, Kd.R_V (Kd.R_of_own (Kd.own_of_R (Kd.R_lower hl (Nat.le_trans g3.size hn))) (fun k hk2 => ⟨fun e => ?_, fun e => ?_⟩)), fun e => ?_, fun e => ?_⟩
 ·have := own_base (Kd.own_of_R hl) k hk2
  have := set_lt g2
  omega
 ·have := own_base (Kd.own_of_R hl) k hk2
  have := Kd.Q_lt g1 k e.symm
  omega
 ·have := Kd.Q_lt g1 bp e.symm
  omega
 ·have := set_lt g2
  omega
mutual
def impl_SyncWord.l0 : Nat → List ByteArray → List ByteArray → Int → Option (ByteArray × Bool)
 | 0, _, _, _ => none
 | k + 1, ws, all, i => if i < (ws.length : Int) then (if 0 ≤ i then (impl_SyncWord.l1 k ws all i (rdOf ByteArray.empty ws i) 0) else (none)) else ((slices_Sort_string_string.f all).bind fun s1 => ((slices_Compact_string_string.f s1).bind fun s2 => ((strings_Join.f s2 (⟨#[44]⟩ : ByteArray)).bind fun key => (if key.size ≤ 1000000 then (impl_SyncWord.l4 k ws [(s2, (⟨#[]⟩ : ByteArray))] [key]) else (none)))))
def impl_SyncWord.l1 : Nat → List ByteArray → List ByteArray → Int → ByteArray → Int → Option (ByteArray × Bool)
 | 0, _, _, _, _, _ => none
 | k + 1, ws, all, i, x, j => if j < (x.size : Int) then (if 0 ≤ j then (if j ≤ (x.size : Int) then (if all.length < 8796093022208 then (impl_SyncWord.l1 k ws (all ++ [x.extract 0 j.toNat]) i x (wrap64 (j + 1))) else (none)) else (none)) else (none)) else (impl_SyncWord.l0 k ws all (wrap64 (i + 1)))
def impl_SyncWord.l4 : Nat → List ByteArray → List (List ByteArray × ByteArray) → List ByteArray → Option (ByteArray × Bool)
 | 0, _, _, _ => none
 | k + 1, ws, Q, keys => if (Q.length : Int) > 0 then (impl_SyncWord.l6 k ws Q keys (Q.headD ([], (⟨#[]⟩ : ByteArray))) 0) else (some ((⟨#[]⟩ : ByteArray), false))
def impl_SyncWord.l6 : Nat → List ByteArray → List (List ByteArray × ByteArray) → List ByteArray → List ByteArray × ByteArray → Int → Option (ByteArray × Bool)
 | 0, _, _, _, _, _ => none
 | k + 1, ws, Q, keys, p, b => if b < 2 then (if 0 ≤ b then (impl_SyncWord.l8 k ws Q keys p b (rdOf ByteArray.empty [(⟨#[48]⟩ : ByteArray), (⟨#[49]⟩ : ByteArray)] b) [] 0) else (none)) else (impl_SyncWord.l4 k ws (Q.drop 1) keys)
def impl_SyncWord.l8 : Nat → List ByteArray → List (List ByteArray × ByteArray) → List ByteArray → List ByteArray × ByteArray → Int → ByteArray → List ByteArray → Int → Option (ByteArray × Bool)
 | 0, _, _, _, _, _, _, _, _ => none
 | k + 1, ws, Q, keys, p, b, bit, nx, i => if i < (p.1.length : Int) then (if 0 ≤ i then ((impl_read.f k ws (rdOf ByteArray.empty p.1 i) bit).bind fun t => (if nx.length < 8796093022208 then (impl_SyncWord.l8 k ws Q keys p b bit (nx ++ [t]) (wrap64 (i + 1))) else (none))) else (none)) else ((slices_Sort_string_string.f nx).bind fun s1 => ((slices_Compact_string_string.f s1).bind fun s2 => (if (s2.length : Int) = 1 ∧ (rdOf ByteArray.empty s2 0).toList = ([] : List UInt8) then (if p.2.size + bit.size ≤ 9223372036854775807 then (some (p.2 ++ bit, true)) else (none)) else ((strings_Join.f s2 (⟨#[44]⟩ : ByteArray)).bind fun key => (if key.size ≤ 1000000 ∧ keys.length < 1000000 then (if hasT keys key = true then (impl_SyncWord.l6 k ws Q keys p (wrap64 (b + 1))) else (if p.2.size + bit.size ≤ 9223372036854775807 ∧ Q.length < 1000000 then (impl_SyncWord.l6 k ws (Q ++ [(s2, p.2 ++ bit)]) (keys ++ [key]) p (wrap64 (b + 1))) else (none))) else (none))))))
end
def impl_SyncWord.f (k : Nat) (ws : List ByteArray) : Option (ByteArray × Bool) := (impl_IsCompleteCode.f k ws).bind fun t => (if t = true then (if (ws.length : Int) < 2 then (some ((⟨#[]⟩ : ByteArray), false)) else (impl_SyncWord.l0 k ws [] 0)) else (some ((⟨#[]⟩ : ByteArray), false)))
set_option maxHeartbeats 8000000 in
set_option maxRecDepth 100000 in
theorem impl_SyncWord.calls (k : Nat) (A0 : Option Addr) (c0 : Nat) (l0 : List ByteArray) (r1 : ByteArray) (r2 : Bool) (w : World) (hr0 : Kd.C Kd.string w A0 l0.length l0) (hc0 : l0.length ≤ c0) (h : impl_SyncWord.f k l0 = some (r1, r2)) :
 Calls Tryz.prog 7 #[.slice A0 l0.length c0] w fun e w' => e = .returned (.tuple #[.string r1, .bool r2]) ∧ Below w.heap.size w w' := by
 have HR0 := Aside0.mk hr0
 have HC0 := Aside0.mk hc0
 clear hr0 hc0
 obtain ⟨t, A1, H⟩ := Option.bind_eq_some_iff.mp h
 clear h
 have A1 := Aside0.mk A1
 by_cases c1_ : t = true
 ·subst c1_
  replace H : (if (l0.length : Int) < 2 then (some ((⟨#[]⟩ : ByteArray), false)) else (impl_SyncWord.l0 k l0 [] 0)) = some (r1, r2) := by rw [if_pos rfl] at H; exact H
  by_cases c2_ : (l0.length : Int) < 2
  ·rw [if_pos c2_] at H
   have c2b0 : decide ((l0.length : Int) < 2) = true := decide_eq_true c2_
   have c2b1 : decide (l0.length < 2) = true := decide_eq_true (by omega)
   clear c2_
   simp only [Option.some.injEq, Prod.mk.injEq] at H
   obtain ⟨rfl, rfl⟩ := H
   go_enter Tryz.func7, Tryz.ntmps7
   go_wp2_with (first | (go_at_call 9; (with_reducible refine (impl_IsCompleteCode.calls k _ _ l0 true _ ?s1 ?s2 A1.out).mono ?_); (case s1 => exact HR0.out); (case s2 => exact HC0.out); rintro e w18 ⟨rfl, hb⟩; have HB := Aside0.mk hb; clear hb))
   go_ret2
   exact ⟨by first | rfl | (simp; done) | (simp [*]; done), (by repeat (first | (with_reducible first | exact HB.out | apply below_alloc | apply pw_below_drewN | apply below_drew1) | exact HB.out))⟩
  ·rw [if_neg c2_] at H
   have c2b0 : decide ((l0.length : Int) < 2) = false := decide_eq_false c2_
   have c2b1 : decide (l0.length < 2) = false := decide_eq_false (by omega)
   clear c2_
   have H' := Aside0.mk H
   clear H
   go_enter Tryz.func7, Tryz.ntmps7
   go_wp2_with (first | (go_at_call 9; (with_reducible refine (impl_IsCompleteCode.calls k _ _ l0 true _ ?s1 ?s2 A1.out).mono ?_); (case s1 => exact HR0.out); (case s2 => exact HC0.out); rintro e w18 ⟨rfl, hb⟩; have HB := Aside0.mk hb; clear hb) | ((with_reducible refine gate_dst (N := 25) rfl ?_); refine Kd.R_lit Kd.string _ 9 ?hg (N := 25) ?hd (xs := ([] : List ByteArray)) (inner := []) (ok := fun _ => True) (okp := fun _ => True) ?hr ?hp (fun _ hk => hk) trivial (Below.refl _ _) (Nat.le_refl _) (by simp) ?_; (case hd => rfl); (case hg => rfl); (case hr => first | (go_simp; done) | (go_simp; rfl)); (case hp => exact (Reps.none _ _)); intro v25 w25 ho hb hg_ hnew_; clear hg_ hnew_; have n0_ := Aside0.mk (Kd.R_lower ho (below_size (by repeat (first | (with_reducible first | exact HB.out | apply below_alloc | apply pw_below_drewN | apply below_drew1) | exact HB.out)))); have n1_ := Aside0.mk (below_step (by repeat (first | (with_reducible first | exact HB.out | apply below_alloc | apply pw_below_drewN | apply below_drew1) | exact HB.out)) hb); clear HB hb ho; have HO := n0_; have HB := n1_; clear n0_ n1_))
   go_loopg [4, 28] k (fun kq v4 v28 w' => ∃ (all : List ByteArray) (i : Int), v28 = .int .i64 i ∧ Aside0 (impl_SyncWord.l0 kq l0 all i = some (r1, r2)) ∧ Aside0 (kq ≤ k) ∧ Aside0 (Kd.R Kd.string 9 w' w.heap.size (fun _ => True) v4 all) ∧ Aside0 (Below w.heap.size w w'))
   case atStart => exact ⟨[], 0, (by first | rfl | (simp; done) | (simp [*]; done)), H', ⟨Nat.le_refl _⟩, HO, HB⟩
   case round =>
    clear H' A1 HO HB
    obtain ⟨all, i, rfl, HA, HK1, HO, HB⟩ := hrel
    cases gk with
    | zero => exact absurd HA.out (by simp [impl_SyncWord.l0])
    | succ k1 =>
     have H := HA.out
     clear HA
     simp only [impl_SyncWord.l0] at H
     by_cases c3_ : i < (l0.length : Int)
     ·rw [if_pos c3_] at H
      by_cases c4_ : 0 ≤ i
      ·rw [if_pos c4_] at H
       have c3b0 : decide (i < (l0.length : Int)) = true := decide_eq_true c3_
       obtain ⟨ad1, e1, hx1⟩ := Kd.at_string HR0.out i c4_ c3_
       cases e1
       replace hx1 := (HB.out.cell (World.block_lt_of_cell? w _ hx1)).trans hx1
       have p1 := eq_true c4_
       have q1 := eq_true c3_
       clear c3_ c4_
       have H' := Aside0.mk H
       clear H
       obtain ⟨x, hx⟩ : ∃ x : ByteArray, rdOf ByteArray.empty l0 i = x := ⟨_, rfl⟩
       rw [hx] at hx1 H'
       clear hx
       go_wp2
       go_loopg [4, 34] k1 (fun kq v4 v34 w' => ∃ (all2 : List ByteArray) (j : Int), v34 = .int .i64 j ∧ Aside0 (impl_SyncWord.l1 kq l0 all2 i x j = some (r1, r2)) ∧ Aside0 (kq ≤ k1) ∧ Aside0 (Kd.R Kd.string 9 w' w.heap.size (fun _ => True) v4 all2) ∧ Aside0 (Below w.heap.size w w'))
       case atStart => exact ⟨all, 0, (by first | rfl | (simp; done) | (simp [*]; done)), H', ⟨Nat.le_refl _⟩, HO, HB⟩
       case round =>
        clear H' HO HB hx1
        obtain ⟨all2, j, rfl, HA, HK2, HO, HB⟩ := hrel
        cases gk with
        | zero => exact absurd HA.out (by simp [impl_SyncWord.l1])
        | succ k2 =>
         have H := HA.out
         clear HA
         simp only [impl_SyncWord.l1] at H
         by_cases c5_ : j < (x.size : Int)
         ·rw [if_pos c5_] at H
          have c5b0 : decide (j < (x.size : Int)) = true := decide_eq_true c5_
          clear c5_
          by_cases c6_ : 0 ≤ j
          ·rw [if_pos c6_] at H
           have c6b0 := eq_true c6_
           have c6b1 : decide (0 ≤ j) = true := decide_eq_true c6_
           clear c6_
           by_cases c7_ : j ≤ (x.size : Int)
           ·rw [if_pos c7_] at H
            have c7b0 := eq_true c7_
            have c7b1 : decide (j ≤ (x.size : Int)) = true := decide_eq_true c7_
            clear c7_
            by_cases c8_ : all2.length < 8796093022208
            ·rw [if_pos c8_] at H
             have HLN := Aside0.mk c8_
             clear c8_
             have H' := Aside0.mk H
             clear H
             go_wp2_with (first | ((with_reducible refine gate_builtin (b := .append) (xs := #[.tmp 37, .tmp 41]) rfl ?_); at_builtin; refine Kd.R_append Kd.string (w0 := w) w.heap.size rfl (.tmp 37) (.tmp 41) 25 9 (.string ⟨#[]⟩) 16 rfl Tryz.underlying25 info9 rfl (by decide) (by omega) u4 all2 (x.extract 0 (j : Int).toNat) [.string (x.extract 0 (j : Int).toNat)] (fun _ => True) (fun _ => False) rfl rfl ?aP (fun _ hk => hk.elim) (fun _ _ => trivial) ?aO ?aB ?aS ?aL ?_; (case aP => exact rfl); (case aB => exact (by repeat (first | (with_reducible first | exact HB.out | apply below_alloc | apply pw_below_drewN | apply below_drew1) | exact HB.out))); (case aO => exact (by (with_reducible repeat (first | apply Kd.R_alloc | apply Kd.R_drewN | apply Kd.R_drew)); exact HO.out)); (case aS => exact (below_size (by repeat (first | (with_reducible first | exact HB.out | apply below_alloc | apply pw_below_drewN | apply below_drew1) | exact HB.out)))); (case aL => exact (by have := HLN.out; omega)); intro v42 w42 ho hb hg_ hat_; have n0_ := Aside0.mk ho; have n1_ := Aside0.mk hb; clear HO HB ho hb hg_ hat_; have HO := n0_; have HB := n1_; clear n0_ n1_))
             go_roundg k2
             case measure => have := HK1.out; have := HK2.out; omega
             case rel => exact ⟨_, _, (by first | rfl | (simp; done) | (simp [*]; done)), H', ⟨by have := HK1.out; have := HK2.out; omega⟩, HO, HB⟩
            ·rw [if_neg c8_] at H
             exact absurd H (by simp)
           ·rw [if_neg c7_] at H
            exact absurd H (by simp)
          ·rw [if_neg c6_] at H
           exact absurd H (by simp)
         ·rw [if_neg c5_] at H
          have c5b0 : decide (j < (x.size : Int)) = false := decide_eq_false c5_
          clear c5_
          have H' := Aside0.mk H
          clear H
          go_wp2
          go_roundg k2
          case measure => have := HK1.out; have := HK2.out; omega
          case rel => exact ⟨_, _, (by first | rfl | (simp; done) | (simp [*]; done)), H', ⟨by have := HK1.out; have := HK2.out; omega⟩, HO, HB⟩
      ·rw [if_neg c4_] at H
       exact absurd H (by simp)
     ·rw [if_neg c3_] at H
      have c3b0 : decide (i < (l0.length : Int)) = false := decide_eq_false c3_
      clear c3_
      obtain ⟨s1, B1, H⟩ := Option.bind_eq_some_iff.mp H
      obtain ⟨s2, B2, H⟩ := Option.bind_eq_some_iff.mp H
      obtain ⟨key, B3, H⟩ := Option.bind_eq_some_iff.mp H
      by_cases c9_ : key.size ≤ 1000000
      ·rw [if_pos c9_] at H
       have HKZ := Aside0.mk c9_
       have B1 := Aside0.mk B1
       have B2 := Aside0.mk B2
       have B3 := Aside0.mk B3
       clear c9_
       have H' := Aside0.mk H
       clear H
       have hmm := @run_makeMap Tryz.prog
       go_wp2_with (first | ((with_reducible refine gate_callee (f := 17) rfl ?_); refine goesL_ (some 46) rfl rfl Tryz.func17 (by kernel_rfl) rfl #[u4] rfl (by (try simp only [List.map_toArray, List.map_cons, List.map_nil]); first | done | rfl) ?_; (with_reducible refine (slices_Sort_string_string.calls (fun k_ => some k_ = u4.ownBlock) u4 all s1 w _ ?side1 ?side2 B1.out).mono ?_); (case side1 => exact (by repeat (first | (with_reducible first | exact HB.out | apply below_alloc | apply pw_below_drewN | apply below_drew1) | exact HB.out))); (case side2 => exact Kd.R_tight rfl ((by (with_reducible repeat (first | apply Kd.R_alloc | apply Kd.R_drewN | apply Kd.R_drew)); exact HO.out))); rintro e w46 ⟨rfl, ho, hb, hkp⟩; refine ⟨_, rfl, ?_⟩; have n0_ := Aside0.mk (Kd.R_mono (ok' := fun _ => True) ho (fun _ _ => trivial)); have n1_ := Aside0.mk hb; clear HO HB ho hb hkp; have HO := n0_; have HB := n1_; clear n0_ n1_) | ((with_reducible refine gate_callee (f := 18) rfl ?_); refine goesL_ (some 48) rfl rfl Tryz.func18 (by kernel_rfl) rfl #[u4] rfl (by (try simp only [List.map_toArray, List.map_cons, List.map_nil]); first | done | rfl) ?_; (with_reducible refine (slices_Compact_string_string.calls (fun k_ => some k_ = u4.ownBlock) u4 s1 s2 w _ ?side1 ?side2 B2.out).mono ?_); (case side1 => exact (by repeat (first | (with_reducible first | exact HB.out | apply below_alloc | apply pw_below_drewN | apply below_drew1) | exact HB.out))); (case side2 => exact Kd.R_tight rfl ((by (with_reducible repeat (first | apply Kd.R_alloc | apply Kd.R_drewN | apply Kd.R_drew)); exact HO.out))); rintro e w48 ⟨v48, rfl, ho, hb, hkp, hob⟩; refine ⟨_, rfl, ?_⟩; have n0_ := Aside0.mk (Kd.R_mono (ok' := fun _ => True) ho (fun _ _ => trivial)); have n1_ := Aside0.mk hb; clear HO HB ho hb hkp hob; have HO := n0_; have HB := n1_; clear n0_ n1_; obtain ⟨a48, c48, e48⟩ := Kd.R_slice HO.out; subst e48) | ((with_reducible refine gate_callee (f := 19) rfl ?_); refine goesL_ (some 51) rfl rfl Tryz.func19 (by kernel_rfl) rfl #[.slice a48 s2.length c48, .string (⟨#[44]⟩ : ByteArray)] rfl (by (try simp only [List.map_toArray, List.map_cons, List.map_nil]); first | done | rfl) ?_; (with_reducible refine (strings_Join.calls _ _ s2 _ key _ ?side1 ?side2 B3.out).mono ?_); (case side1 => repeat (first | exact (Kd.R_reads' HO.out).2.2 | (with_reducible refine Kd.C_alloc ?_ _) | (with_reducible refine Kd.C_drewN ?_ _) | (with_reducible refine Kd.C_drew ?_))); (case side2 => exact (Kd.R_reads' HO.out).2.1); rintro e w51 ⟨rfl, hb⟩; refine ⟨_, rfl, ?_⟩; obtain ⟨w52, hup, hS, hg⟩ := set_put (set_below (set_made w48) (hb.block w48.heap.size (Nat.lt_of_lt_of_eq (Nat.lt_succ_self _) (Array.size_push _).symm))) (by decide) key (Nat.le_trans HKZ.out (by decide)); have hb2 := below_step ((by repeat (first | (with_reducible first | exact HB.out | apply below_alloc | apply pw_below_drewN | apply below_drew1) | exact HB.out)) : Below w.heap.size w (w48.alloc (.map #[] 0))) hb; have n0_ := Aside0.mk (sy_row HO.out (w1 := w52) (fun k hk => (hg.block k (Nat.lt_of_lt_of_le (sy_lt HO.out k hk) (Nat.le_trans (Nat.le_trans (Nat.le_succ _) (Nat.le_of_eq (Array.size_push _).symm)) hb.size)) (fun e_ => by have := sy_lt HO.out k hk; injection e_ with e_; omega)).trans ((hb.block k (Nat.lt_of_lt_of_le (sy_lt HO.out k hk) (Nat.le_trans (Nat.le_succ _) (Nat.le_of_eq (Array.size_push _).symm)))).trans (heap_alloc_old _ _ (sy_lt HO.out k hk))))); have n1_ := Aside0.mk (hb2.grown hg hb2.size (fun k e_ => by cases e_; exact HB.out.size)); have HNM := Aside0.mk (show ∀ k, (.slice a48 s2.length c48 : Value).ownBlock = some k → k ≠ w48.heap.size from fun k hk => Nat.ne_of_lt (sy_lt HO.out k hk)); have HMW := Aside0.mk HB.out.size; clear HO HB hb hb2 hg; have HO := n0_; have HB := n1_; have HS := Aside0.mk hS; clear n0_ n1_ hS) | ((with_reducible refine gate_dst (N := 55) rfl ?_); refine Kd.R_lit pathK w.heap.size 45 ?hg (N := 55) ?hd (xs := [(s2, (⟨#[]⟩ : ByteArray))]) (inner := [.slice a48 s2.length c48, .string (⟨#[]⟩ : ByteArray)]) (ok := fun k => k ≠ w48.heap.size) (okp := fun k => k ≠ w48.heap.size) ?hr ?hp (fun _ hk => hk) ?hf ((by repeat (first | (with_reducible first | exact HB.out | apply below_alloc | apply pw_below_drewN | apply below_drew1) | exact HB.out))) (below_size (by repeat (first | (with_reducible first | exact HB.out | apply below_alloc | apply pw_below_drewN | apply below_drew1) | exact HB.out))) (by simp) ?_; (case hd => rfl); (case hg => rfl); (case hr => first | (go_simp; done) | (go_simp; rfl)); (case hp => exact sy_single ⟨[.slice a48 s2.length c48], [.string (⟨#[]⟩ : ByteArray)], rfl, ⟨_, rfl, Kd.R_of_own (Kd.own_of_R HO.out) (fun k hk => HNM.out k hk)⟩, rfl⟩ rfl); (case hf => exact Nat.ne_of_gt (set_lt HS.out)); intro v55 w55 ho hb hg_ hnew_; have HI := Aside0.mk (show SyInv w w55 w48.heap.size v55 [(s2, (⟨#[]⟩ : ByteArray))] [key] from ⟨Kd.Q_of_R ho, set_kept HS.out hg_ (by simp), hb, HMW.out⟩); clear HO HB HS HNM HMW ho hb hg_ hnew_))
       obtain ⟨m, hm⟩ : ∃ x : Nat, x = w48.heap.size := ⟨_, rfl⟩
       rw [← hm] at HI
       rw [show (Value.map (some w48.heap.size)) = .map (some m) from by rw [hm]]
       clear hm
       go_loopg [9] k1 (fun kq v9 w' => ∃ (Q : List (List ByteArray × ByteArray)) (keys : List ByteArray), Aside0 (impl_SyncWord.l4 kq l0 Q keys = some (r1, r2)) ∧ Aside0 (kq ≤ k1) ∧ Aside0 (SyInv w w' m v9 Q keys))
       case atStart => exact ⟨_, _, H', ⟨Nat.le_refl _⟩, HI⟩
       case round =>
        clear H' HI B1 B2 B3
        obtain ⟨Q, keys, HA, HK2, HI⟩ := hrel
        cases gk with
        | zero => exact absurd HA.out (by simp [impl_SyncWord.l4])
        | succ k2 =>
         have H := HA.out
         clear HA
         simp only [impl_SyncWord.l4] at H
         obtain ⟨a9, c9, e9, hl9⟩ := Kd.Q_slice HI.out.1
         subst e9
         by_cases d1_ : (Q.length : Int) > 0
         ·rw [if_pos d1_] at H
          have d1b0 : decide (0 < (Q.length : Int)) = true := decide_eq_true d1_
          have d1b1 : decide (0 < Q.length) = true := decide_eq_true (by omega)
          obtain ⟨p, Qr, hQ⟩ : ∃ p Qr, Q = p :: Qr := by
           cases Q with
           | nil => simp at d1_
           | cons p Qr => exact ⟨p, Qr, rfl⟩
          clear d1_
          have hQ' := hQ
          subst hQ'
          obtain ⟨ad, vr, ea, hx0, hx1, hvr⟩ := sy_head HI.out.1
          subst ea
          obtain ⟨ar, cr, er⟩ := Kd.R_slice hvr
          subst er
          have HVR := Aside0.mk hvr
          have H' := Aside0.mk (show impl_SyncWord.l6 k2 l0 (p :: Qr) keys p 0 = some (r1, r2) from H)
          clear H hvr
          go_wp2_with (first | ((with_reducible refine gate_dst (N := 10) rfl ?_); refine box_event ?hg (N := 10) ?hd (cs := #[.slice none 0 0, .string (⟨#[]⟩ : ByteArray)]) (t := 45) ?hr ?_; (case hd => rfl); (case hg => rfl); (case hr => first | (go_simp; done) | (go_simp; rfl)); intro bp hg w10 hbox hb; have BK := Aside0.mk hbox; have BP := Aside0.mk hg; have HB10 := Aside0.mk hb; clear hbox hg hb) | ((with_reducible refine gate_store (t := 45) (p := 10) rfl ?_); refine wpList_store_row rfl 45 (.tmp 10) (.tmp 63) rfl bp #[.slice ar p.1.length cr, .string p.2] rfl rfl 45 _ BK.out (by kernel_rfl) rfl (by first | rfl | kernel_rfl | simp [Value.oneCell']) ?_) | ((with_reducible refine gate_dst (N := 64) rfl ?_); refine Kd.R_lit Kd.string _ 9 ?hg (N := 64) ?hd (xs := [(⟨#[48]⟩ : ByteArray), (⟨#[49]⟩ : ByteArray)]) (inner := [.string (⟨#[48]⟩ : ByteArray), .string (⟨#[49]⟩ : ByteArray)]) (ok := fun _ => True) (okp := fun _ => True) ?hr ?hp (fun _ hk => hk) trivial (Below.refl _ _) (Nat.le_refl _) (by simp) ?_; (case hd => rfl); (case hg => rfl); (case hr => first | (go_simp; done) | (go_simp; rfl)); (case hp => exact Reps.one (show Kd.M Kd.string _ _ _ (⟨#[48]⟩ : ByteArray) [.string (⟨#[48]⟩ : ByteArray)] from rfl) (Reps.one (show Kd.M Kd.string _ _ _ (⟨#[49]⟩ : ByteArray) [.string (⟨#[49]⟩ : ByteArray)] from rfl) (Reps.none _ _))); intro v64 w64 ho hb hg_ hnew_; have HI6 := Aside0.mk (BInv.start HI.out HVR.out BP.out BK.out HB10.out ho (by rw [size_setRow]; exact HB10.out.size) hb); clear HI HVR BP BK HB10 ho hb hg_ hnew_ hx0 hx1; obtain ⟨al, cl, el, _, _⟩ := HI6.out.2.2.2.1; subst el))
          go_loopg [9, 66] k2 (fun kq v9 v66 w' => ∃ (Q2 : List (List ByteArray × ByteArray)) (keys2 : List ByteArray) (b : Int), v66 = .int .i64 b ∧ Aside0 (impl_SyncWord.l6 kq l0 Q2 keys2 p b = some (r1, r2)) ∧ Aside0 (kq ≤ k2) ∧ Aside0 (0 < Q2.length) ∧ Aside0 (BInv w w' m v9 Q2 keys2 bp ar cr p (.slice al 2 cl)))
          case atStart => exact ⟨_, _, 0, (by first | rfl | (simp; done) | (simp [*]; done)), H', ⟨Nat.le_refl _⟩, ⟨Nat.succ_pos _⟩, HI6⟩
          case round =>
           clear H' HI6
           obtain ⟨Q2, keys2, b, rfl, HA, HK3, HQ0, HI6⟩ := hrel
           cases gk with
           | zero => exact absurd HA.out (by simp [impl_SyncWord.l6])
           | succ k3 =>
            have H := HA.out
            clear HA
            simp only [impl_SyncWord.l6] at H
            by_cases d2_ : b < 2
            ·rw [if_pos d2_] at H
             by_cases d3_ : 0 ≤ b
             ·rw [if_pos d3_] at H
              have d2b0 : decide (b < 2) = true := decide_eq_true d2_
              obtain ⟨ad6, e6, hx6⟩ := Kd.at_string (Kd.V_reads' HI6.out.2.2.2.1).2.2 b d3_ (by simpa using d2_)
              have e6' := e6
              subst e6'
              obtain ⟨bit, hbit⟩ : ∃ x : ByteArray, rdOf ByteArray.empty [(⟨#[48]⟩ : ByteArray), (⟨#[49]⟩ : ByteArray)] b = x := ⟨_, rfl⟩
              rw [hbit] at hx6 H
              have p6 := eq_true d3_
              have q6 : (b < ((2 : Nat) : Int)) = True := eq_true (by simpa using d2_)
              have q6' : (b < 2) = True := eq_true d2_
              clear hbit
              have H' := Aside0.mk H
              clear H
              go_wp2_with (first | ((with_reducible refine gate_dst (N := 70) rfl ?_); refine Kd.R_lit Kd.string _ 9 ?hg (N := 70) ?hd (xs := ([] : List ByteArray)) (inner := []) (ok := fun _ => True) (okp := fun _ => True) ?hr ?hp (fun _ hk => hk) trivial (Below.refl _ _) (Nat.le_refl _) (by simp) ?_; (case hd => rfl); (case hg => rfl); (case hr => first | (go_simp; done) | (go_simp; rfl)); (case hp => exact (Reps.none _ _)); intro v70 w70 ho hb hg_ hnew_; clear hg_ hnew_; have HN := Aside0.mk ho; have HNB := Aside0.mk hb; have hbk := (hb.block bp (blk_lt HI6.out.2.1)).trans HI6.out.2.1; have hcb0 : w70.cell? ⟨bp, 0, none⟩ = some (.slice ar p.1.length cr) := (blk_cell hbk 0).trans rfl; clear hbk ho hb hx6))
              obtain ⟨w6, hw6⟩ : ∃ x : World, x = wr := ⟨wr, rfl⟩
              rw [← hw6] at HN HNB HI6
              clear hw6 d2_ d3_
              go_loopg [13, 74] k3 (fun kq v13 v74 w' => ∃ (nx : List ByteArray) (i2 : Int), v74 = .int .i64 i2 ∧ Aside0 (impl_SyncWord.l8 kq l0 Q2 keys2 p b bit nx i2 = some (r1, r2)) ∧ Aside0 (kq ≤ k3) ∧ Aside0 (Kd.R Kd.string 9 w' w6.heap.size (fun _ => True) v13 nx) ∧ Aside0 (Below w6.heap.size w6 w'))
              case atStart => exact ⟨[], 0, (by first | rfl | (simp; done) | (simp [*]; done)), H', ⟨Nat.le_refl _⟩, HN, HNB⟩
              case round =>
               clear H' HN HNB hcb0
               obtain ⟨nx, i2, rfl, HA, HK4, HN, HNB⟩ := hrel
               cases gk with
               | zero => exact absurd HA.out (by simp [impl_SyncWord.l8])
               | succ k4 =>
                have H := HA.out
                clear HA
                simp only [impl_SyncWord.l8] at H
                by_cases d4_ : i2 < (p.1.length : Int)
                ·rw [if_pos d4_] at H
                 by_cases d5_ : 0 ≤ i2
                 ·rw [if_pos d5_] at H
                  obtain ⟨t8, B5, H⟩ := Option.bind_eq_some_iff.mp H
                  by_cases d6_ : nx.length < 8796093022208
                  ·rw [if_pos d6_] at H
                   have HLN := Aside0.mk d6_
                   clear d6_
                   have d4b0 : decide (i2 < (p.1.length : Int)) = true := decide_eq_true d4_
                   obtain ⟨ad8, e8, hx8⟩ := Kd.at_string (Kd.V_reads' HI6.out.2.2.1).2.2 i2 d5_ d4_
                   have e8' := e8
                   subst e8'
                   replace hx8 := (HNB.out.cell (World.block_lt_of_cell? w6 _ hx8)).trans hx8
                   obtain ⟨x8, hx8e⟩ : ∃ x : ByteArray, rdOf ByteArray.empty p.1 i2 = x := ⟨_, rfl⟩
                   rw [hx8e] at hx8 B5
                   have B5 := Aside0.mk B5
                   have p8 := eq_true d5_
                   have q8 := eq_true d4_
                   clear hx8e d4_ d5_
                   have H' := Aside0.mk H
                   clear H
                   go_wp2_with (first | ((with_reducible refine gate_callee (f := 20) rfl ?_); refine goesL_ (some 82) rfl rfl Tryz.func20 (by kernel_rfl) rfl #[.slice A0 l0.length c0, .string x8, .string bit] rfl (by (try simp only [List.map_toArray, List.map_cons, List.map_nil]); first | done | rfl) ?_; (with_reducible refine (impl_read.calls k4 _ _ l0 x8 bit t8 _ ?side1 ?side2 B5.out).mono ?_); (case side1 => repeat (first | exact Kd.C_below HR0.out (below_step HI6.out.1.2.2.1 HNB.out) | (with_reducible refine Kd.C_alloc ?_ _) | (with_reducible refine Kd.C_drewN ?_ _) | (with_reducible refine Kd.C_drew ?_))); (case side2 => exact HC0.out); rintro e w82 ⟨rfl, ⟨nd, rfl⟩⟩; refine ⟨_, rfl, ?_⟩) | ((with_reducible refine gate_builtin (b := .append) (xs := #[.tmp 78, .tmp 83]) rfl ?_); at_builtin; refine Kd.R_append Kd.string (w0 := w6) w6.heap.size rfl (.tmp 78) (.tmp 83) 25 9 (.string ⟨#[]⟩) 16 rfl Tryz.underlying25 info9 rfl (by decide) (by omega) u13 nx t8 [.string t8] (fun _ => True) (fun _ => False) rfl rfl ?aP (fun _ hk => hk.elim) (fun _ _ => trivial) ?aO ?aB ?aS ?aL ?_; (case aP => exact rfl); (case aB => exact (by repeat (first | (with_reducible first | exact HNB.out | apply below_alloc | apply pw_below_drewN | apply below_drew1) | exact HNB.out))); (case aO => exact (by (with_reducible repeat (first | apply Kd.R_alloc | apply Kd.R_drewN | apply Kd.R_drew)); exact HN.out)); (case aS => exact (below_size (by repeat (first | (with_reducible first | exact HNB.out | apply below_alloc | apply pw_below_drewN | apply below_drew1) | exact HNB.out)))); (case aL => exact (by have := HLN.out; omega)); intro v84 w84 ho hb hg_ hat_; have n0_ := Aside0.mk ho; have n1_ := Aside0.mk hb; clear HN HNB ho hb hg_ hat_; have HN := n0_; have HNB := n1_; clear n0_ n1_))
                   go_roundg k4
                   case measure => have := HK1.out; have := HK2.out; have := HK3.out; have := HK4.out; omega
                   case rel => exact ⟨_, _, (by first | rfl | (simp; done) | (simp [*]; done)), H', ⟨by have := HK1.out; have := HK2.out; have := HK3.out; have := HK4.out; omega⟩, HN, HNB⟩
                  ·rw [if_neg d6_] at H
                   exact absurd H (by simp)
                 ·rw [if_neg d5_] at H
                  exact absurd H (by simp)
                ·rw [if_neg d4_] at H
                 have d4b0 : decide (i2 < (p.1.length : Int)) = false := decide_eq_false d4_
                 clear d4_
                 obtain ⟨s3, B6, H⟩ := Option.bind_eq_some_iff.mp H
                 obtain ⟨s4, B7, H⟩ := Option.bind_eq_some_iff.mp H
                 have B6 := Aside0.mk B6
                 have B7 := Aside0.mk B7
                 by_cases f1_ : (s4.length : Int) = 1
                 ·obtain ⟨x10, hx10e⟩ : ∃ x : ByteArray, rdOf ByteArray.empty s4 0 = x := ⟨_, rfl⟩
                  have f1b0 : ((s4.length : Int) == 1) = true := beq_iff_eq.2 f1_
                  have f1b1 : (0 < s4.length) = True := eq_true (by omega)
                  have f1b2 : decide (0 < s4.length) = true := decide_eq_true (by omega)
                  have f1b3 : decide ((0 : Int) < (s4.length : Int)) = true := decide_eq_true (by omega)
                  by_cases f2_ : x10.toList = ([] : List UInt8)
                  ·rw [if_pos ⟨f1_, by rw [hx10e]; exact f2_⟩] at H
                   have f2b0 : (x10.toList == ([] : List UInt8)) = true := beq_iff_eq.2 f2_
                   have f2b1 : x10.toList.isEmpty = true := by rw [f2_]; rfl
                   by_cases g2_ : p.2.size + bit.size ≤ 9223372036854775807
                   ·rw [if_pos g2_] at H
                    have g2b0 := eq_true g2_
                    have g2b2 : (9223372036854775807 < p.2.size + bit.size) = False := eq_false (Nat.not_lt.2 g2_)
                    clear g2_
                    simp only [Option.some.injEq, Prod.mk.injEq] at H
                    obtain ⟨rfl, rfl⟩ := H
                    go_wp2_with (first | ((with_reducible refine gate_callee (f := 17) rfl ?_); refine goesL_ (some 87) rfl rfl Tryz.func17 (by kernel_rfl) rfl #[u13] rfl (by (try simp only [List.map_toArray, List.map_cons, List.map_nil]); first | done | rfl) ?_; (with_reducible refine (slices_Sort_string_string.calls (fun k_ => some k_ = u13.ownBlock) u13 nx s3 w6 _ ?side1 ?side2 B6.out).mono ?_); (case side1 => exact (by repeat (first | (with_reducible first | exact HNB.out | apply below_alloc | apply pw_below_drewN | apply below_drew1) | exact HNB.out))); (case side2 => exact Kd.R_tight rfl ((by (with_reducible repeat (first | apply Kd.R_alloc | apply Kd.R_drewN | apply Kd.R_drew)); exact HN.out))); rintro e w87 ⟨rfl, ho, hb, hkp⟩; refine ⟨_, rfl, ?_⟩; have n0_ := Aside0.mk (Kd.R_mono (ok' := fun _ => True) ho (fun _ _ => trivial)); have n1_ := Aside0.mk hb; clear HN HNB ho hb hkp; have HN := n0_; have HNB := n1_; clear n0_ n1_) | ((with_reducible refine gate_callee (f := 18) rfl ?_); refine goesL_ (some 89) rfl rfl Tryz.func18 (by kernel_rfl) rfl #[u13] rfl (by (try simp only [List.map_toArray, List.map_cons, List.map_nil]); first | done | rfl) ?_; (with_reducible refine (slices_Compact_string_string.calls (fun k_ => some k_ = u13.ownBlock) u13 s3 s4 w6 _ ?side1 ?side2 B7.out).mono ?_); (case side1 => exact (by repeat (first | (with_reducible first | exact HNB.out | apply below_alloc | apply pw_below_drewN | apply below_drew1) | exact HNB.out))); (case side2 => exact Kd.R_tight rfl ((by (with_reducible repeat (first | apply Kd.R_alloc | apply Kd.R_drewN | apply Kd.R_drew)); exact HN.out))); rintro e w89 ⟨v89, rfl, ho, hb, hkp, hob⟩; refine ⟨_, rfl, ?_⟩; have n0_ := Aside0.mk (Kd.R_mono (ok' := fun _ => True) ho (fun _ _ => trivial)); have n1_ := Aside0.mk hb; clear HN HNB ho hb hkp hob; have HN := n0_; have HNB := n1_; clear n0_ n1_; obtain ⟨a89, c89, e89⟩ := Kd.R_slice HN.out; subst e89; have hbk := (HNB.out.block bp (blk_lt HI6.out.2.1)).trans HI6.out.2.1; have hcb1 : w89.cell? ⟨bp, 1, none⟩ = some (.string p.2) := (blk_cell hbk 1).trans rfl; clear hbk; obtain ⟨ad10, e10, hx10⟩ := Kd.at_string (Kd.R_reads' HN.out).2.2 0 (by decide) (by omega); have e10' := e10; subst e10'; rw [hx10e] at hx10; simp only [Int.toNat_zero, Addr.add, if_true] at hx10))
                    go_ret2
                    exact ⟨by first | rfl | (simp; done) | (simp [*]; done), below_step HI6.out.1.2.2.1 ((by repeat (first | (with_reducible first | exact HNB.out | apply below_alloc | apply pw_below_drewN | apply below_drew1) | exact HNB.out)) : Below w6.heap.size w6 _)⟩
                   ·rw [if_neg g2_] at H
                    exact absurd H (by simp)
                  ·rw [if_neg (fun h_ => f2_ (by rw [← hx10e]; exact h_.2))] at H
                   have f2b0 : (x10.toList == ([] : List UInt8)) = false := beq_eq_false_iff_ne.2 f2_
                   have f2b1 : x10.toList.isEmpty = false := by
                    cases hh : x10.toList with
                    | nil => exact absurd hh f2_
                    | cons y r => rfl
                   obtain ⟨key2, B8, H⟩ := Option.bind_eq_some_iff.mp H
                   by_cases g1_ : key2.size ≤ 1000000 ∧ keys2.length < 1000000
                   ·rw [if_pos g1_] at H
                    have HK8 := Aside0.mk g1_
                    clear g1_
                    have B8 := Aside0.mk B8
                    by_cases hin : hasT keys2 key2 = true
                    ·rw [if_pos hin] at H
                     have H' := Aside0.mk H
                     clear H
                     go_wp2_with (first | ((with_reducible refine gate_callee (f := 17) rfl ?_); refine goesL_ (some 87) rfl rfl Tryz.func17 (by kernel_rfl) rfl #[u13] rfl (by (try simp only [List.map_toArray, List.map_cons, List.map_nil]); first | done | rfl) ?_; (with_reducible refine (slices_Sort_string_string.calls (fun k_ => some k_ = u13.ownBlock) u13 nx s3 w6 _ ?side1 ?side2 B6.out).mono ?_); (case side1 => exact (by repeat (first | (with_reducible first | exact HNB.out | apply below_alloc | apply pw_below_drewN | apply below_drew1) | exact HNB.out))); (case side2 => exact Kd.R_tight rfl ((by (with_reducible repeat (first | apply Kd.R_alloc | apply Kd.R_drewN | apply Kd.R_drew)); exact HN.out))); rintro e w87 ⟨rfl, ho, hb, hkp⟩; refine ⟨_, rfl, ?_⟩; have n0_ := Aside0.mk (Kd.R_mono (ok' := fun _ => True) ho (fun _ _ => trivial)); have n1_ := Aside0.mk hb; clear HN HNB ho hb hkp; have HN := n0_; have HNB := n1_; clear n0_ n1_) | ((with_reducible refine gate_callee (f := 18) rfl ?_); refine goesL_ (some 89) rfl rfl Tryz.func18 (by kernel_rfl) rfl #[u13] rfl (by (try simp only [List.map_toArray, List.map_cons, List.map_nil]); first | done | rfl) ?_; (with_reducible refine (slices_Compact_string_string.calls (fun k_ => some k_ = u13.ownBlock) u13 s3 s4 w6 _ ?side1 ?side2 B7.out).mono ?_); (case side1 => exact (by repeat (first | (with_reducible first | exact HNB.out | apply below_alloc | apply pw_below_drewN | apply below_drew1) | exact HNB.out))); (case side2 => exact Kd.R_tight rfl ((by (with_reducible repeat (first | apply Kd.R_alloc | apply Kd.R_drewN | apply Kd.R_drew)); exact HN.out))); rintro e w89 ⟨v89, rfl, ho, hb, hkp, hob⟩; refine ⟨_, rfl, ?_⟩; have n0_ := Aside0.mk (Kd.R_mono (ok' := fun _ => True) ho (fun _ _ => trivial)); have n1_ := Aside0.mk hb; clear HN HNB ho hb hkp hob; have HN := n0_; have HNB := n1_; clear n0_ n1_; obtain ⟨a89, c89, e89⟩ := Kd.R_slice HN.out; subst e89; have hbk := (HNB.out.block bp (blk_lt HI6.out.2.1)).trans HI6.out.2.1; have hcb1 : w89.cell? ⟨bp, 1, none⟩ = some (.string p.2) := (blk_cell hbk 1).trans rfl; clear hbk; obtain ⟨ad10, e10, hx10⟩ := Kd.at_string (Kd.R_reads' HN.out).2.2 0 (by decide) (by omega); have e10' := e10; subst e10'; rw [hx10e] at hx10; simp only [Int.toNat_zero, Addr.add, if_true] at hx10) | ((with_reducible refine gate_callee (f := 19) rfl ?_); refine goesL_ (some 104) rfl rfl Tryz.func19 (by kernel_rfl) rfl #[.slice (some ad10) s4.length c89, .string (⟨#[44]⟩ : ByteArray)] rfl (by (try simp only [List.map_toArray, List.map_cons, List.map_nil]); first | done | rfl) ?_; (with_reducible refine (strings_Join.calls _ _ s4 _ key2 _ ?side1 ?side2 B8.out).mono ?_); (case side1 => repeat (first | exact (Kd.R_reads' HN.out).2.2 | (with_reducible refine Kd.C_alloc ?_ _) | (with_reducible refine Kd.C_drewN ?_ _) | (with_reducible refine Kd.C_drew ?_))); (case side2 => exact (Kd.R_reads' HN.out).2.1); rintro e w104 ⟨rfl, hb⟩; refine ⟨_, rfl, ?_⟩; have n0_ := Aside0.mk (sy_row HN.out (w1 := w104) (fun k hk => hb.block k (sy_lt HN.out k hk))); have n1_ := Aside0.mk (below_step (by repeat (first | (with_reducible first | exact HNB.out | apply below_alloc | apply pw_below_drewN | apply below_drew1) | exact HNB.out)) hb); clear HN HNB hb hcb1; have HN := n0_; have HNB := n1_; clear n0_ n1_; have HI7 := Aside0.mk (BInv.below HI6.out HNB.out); have hlk := set_get HI7.out.1.2.1 key2 (Nat.le_trans HK8.out.1 (by decide)); rw [hin] at hlk))
                     go_roundg k4
                     case measure => have := HK1.out; have := HK2.out; have := HK3.out; have := HK4.out; omega
                     case rel => exact ⟨_, _, _, (by first | rfl | (simp; done) | (simp [*]; done)), H', ⟨by have := HK1.out; have := HK2.out; have := HK3.out; have := HK4.out; omega⟩, HQ0, HI7⟩
                    ·rw [if_neg hin] at H
                     have hin := Bool.eq_false_iff.2 hin
                     by_cases g2_ : p.2.size + bit.size ≤ 9223372036854775807 ∧ Q2.length < 1000000
                     ·rw [if_pos g2_] at H
                      have HQL := Aside0.mk g2_.2
                      have g2b0 := eq_true g2_.1
                      have g2b2 : (9223372036854775807 < p.2.size + bit.size) = False := eq_false (Nat.not_lt.2 g2_.1)
                      clear g2_
                      have H' := Aside0.mk H
                      clear H
                      go_wp2_with (first | ((with_reducible refine gate_callee (f := 17) rfl ?_); refine goesL_ (some 87) rfl rfl Tryz.func17 (by kernel_rfl) rfl #[u13] rfl (by (try simp only [List.map_toArray, List.map_cons, List.map_nil]); first | done | rfl) ?_; (with_reducible refine (slices_Sort_string_string.calls (fun k_ => some k_ = u13.ownBlock) u13 nx s3 w6 _ ?side1 ?side2 B6.out).mono ?_); (case side1 => exact (by repeat (first | (with_reducible first | exact HNB.out | apply below_alloc | apply pw_below_drewN | apply below_drew1) | exact HNB.out))); (case side2 => exact Kd.R_tight rfl ((by (with_reducible repeat (first | apply Kd.R_alloc | apply Kd.R_drewN | apply Kd.R_drew)); exact HN.out))); rintro e w87 ⟨rfl, ho, hb, hkp⟩; refine ⟨_, rfl, ?_⟩; have n0_ := Aside0.mk (Kd.R_mono (ok' := fun _ => True) ho (fun _ _ => trivial)); have n1_ := Aside0.mk hb; clear HN HNB ho hb hkp; have HN := n0_; have HNB := n1_; clear n0_ n1_) | ((with_reducible refine gate_callee (f := 18) rfl ?_); refine goesL_ (some 89) rfl rfl Tryz.func18 (by kernel_rfl) rfl #[u13] rfl (by (try simp only [List.map_toArray, List.map_cons, List.map_nil]); first | done | rfl) ?_; (with_reducible refine (slices_Compact_string_string.calls (fun k_ => some k_ = u13.ownBlock) u13 s3 s4 w6 _ ?side1 ?side2 B7.out).mono ?_); (case side1 => exact (by repeat (first | (with_reducible first | exact HNB.out | apply below_alloc | apply pw_below_drewN | apply below_drew1) | exact HNB.out))); (case side2 => exact Kd.R_tight rfl ((by (with_reducible repeat (first | apply Kd.R_alloc | apply Kd.R_drewN | apply Kd.R_drew)); exact HN.out))); rintro e w89 ⟨v89, rfl, ho, hb, hkp, hob⟩; refine ⟨_, rfl, ?_⟩; have n0_ := Aside0.mk (Kd.R_mono (ok' := fun _ => True) ho (fun _ _ => trivial)); have n1_ := Aside0.mk hb; clear HN HNB ho hb hkp hob; have HN := n0_; have HNB := n1_; clear n0_ n1_; obtain ⟨a89, c89, e89⟩ := Kd.R_slice HN.out; subst e89; have hbk := (HNB.out.block bp (blk_lt HI6.out.2.1)).trans HI6.out.2.1; have hcb1 : w89.cell? ⟨bp, 1, none⟩ = some (.string p.2) := (blk_cell hbk 1).trans rfl; clear hbk; obtain ⟨ad10, e10, hx10⟩ := Kd.at_string (Kd.R_reads' HN.out).2.2 0 (by decide) (by omega); have e10' := e10; subst e10'; rw [hx10e] at hx10; simp only [Int.toNat_zero, Addr.add, if_true] at hx10) | ((with_reducible refine gate_callee (f := 19) rfl ?_); refine goesL_ (some 104) rfl rfl Tryz.func19 (by kernel_rfl) rfl #[.slice (some ad10) s4.length c89, .string (⟨#[44]⟩ : ByteArray)] rfl (by (try simp only [List.map_toArray, List.map_cons, List.map_nil]); first | done | rfl) ?_; (with_reducible refine (strings_Join.calls _ _ s4 _ key2 _ ?side1 ?side2 B8.out).mono ?_); (case side1 => repeat (first | exact (Kd.R_reads' HN.out).2.2 | (with_reducible refine Kd.C_alloc ?_ _) | (with_reducible refine Kd.C_drewN ?_ _) | (with_reducible refine Kd.C_drew ?_))); (case side2 => exact (Kd.R_reads' HN.out).2.1); rintro e w104 ⟨rfl, hb⟩; refine ⟨_, rfl, ?_⟩; have n0_ := Aside0.mk (sy_row HN.out (w1 := w104) (fun k hk => hb.block k (sy_lt HN.out k hk))); have n1_ := Aside0.mk (below_step (by repeat (first | (with_reducible first | exact HNB.out | apply below_alloc | apply pw_below_drewN | apply below_drew1) | exact HNB.out)) hb); clear HN HNB hb hcb1; have HN := n0_; have HNB := n1_; clear n0_ n1_; have HI7 := Aside0.mk (BInv.below HI6.out HNB.out); have hlk := set_get HI7.out.1.2.1 key2 (Nat.le_trans HK8.out.1 (by decide)); rw [hin] at hlk; obtain ⟨w107, hup, hS, hg⟩ := set_put HI7.out.1.2.1 HK8.out.2 key2 (Nat.le_trans HK8.out.1 (by decide)); have n0_ := Aside0.mk (sy_row HN.out (w1 := w107) (fun k hk => hg.block k (sy_lt HN.out k hk) (fun e_ => by have h1_ := own_base (Kd.own_of_R HN.out) k hk; have h2_ := set_lt HI6.out.1.2.1; injection e_ with e_; omega))); have HOB := Aside0.mk (fun k (hk : (.slice (some ad10) s4.length c89 : Value).ownBlock = some k) => own_base (Kd.own_of_R HN.out) k hk); clear HN; have HN := n0_; clear n0_; have HI8 := Aside0.mk (BInv.put HI7.out hS hg); clear hS hg; have hbk := HI8.out.2.1; have hcb1 : w107.cell? ⟨bp, 1, none⟩ = some (.string p.2) := (blk_cell hbk 1).trans rfl; clear hbk) | ((with_reducible refine gate_builtin (b := .append) (xs := #[.tmp 111, .tmp 118]) rfl ?_); at_builtin; refine Kd.Q_append pathK (w0 := w) w.heap.size rfl (.tmp 111) (.tmp 118) 46 45 (.agg #[.slice none 0 0, .string (⟨#[]⟩ : ByteArray)]) 40 rfl Tryz.underlying46 syInfo rfl (by decide) (by omega) u9 Q2 (s4, p.2 ++ bit) [.slice (some ad10) s4.length c89, .string (p.2 ++ bit)] (fun k => k ≠ m) (fun k => k ≠ m ∧ some k ≠ u9.ownBlock) rfl rfl ?aP ?aK ?aF ?aO ?aB ?aS ?aL ?_; (case aP => exact ⟨[.slice (some ad10) s4.length c89], [.string (p.2 ++ bit)], rfl, ⟨_, rfl, Kd.R_of_own (Kd.own_of_R (Kd.R_lower HN.out HI6.out.1.2.2.1.size)) (fun k hk => ⟨fun e_ => by have h1_ := HOB.out k hk; have h2_ := set_lt HI6.out.1.2.1; omega, fun e_ => by have h1_ := HOB.out k hk; have h2_ := Kd.Q_lt HI6.out.1.1 k e_.symm; omega⟩)⟩, rfl⟩); (case aK => exact fun k hk => hk); (case aF => exact fun k hk e_ => by have h2_ := set_lt HI8.out.1.2.1; omega); (case aO => exact HI8.out.1.1); (case aB => exact HI8.out.1.2.2.1); (case aS => exact HI8.out.1.2.2.1.size); (case aL => have := HQL.out; omega); intro v119 w119 ho hb hg hat; have HI9 := Aside0.mk (BInv.app HI8.out ho hb hg hat); clear ho hb hg hat hcb1))
                      go_roundg k4
                      case measure => have := HK1.out; have := HK2.out; have := HK3.out; have := HK4.out; omega
                      case rel => exact ⟨_, _, _, (by first | rfl | (simp; done) | (simp [*]; done)), H', ⟨by have := HK1.out; have := HK2.out; have := HK3.out; have := HK4.out; omega⟩, ⟨by rw [List.length_append, List.length_singleton]; exact Nat.succ_pos _⟩, HI9⟩
                     ·rw [if_neg g2_] at H
                      exact absurd H (by simp)
                   ·rw [if_neg g1_] at H
                    exact absurd H (by simp)
                 ·rw [if_neg (fun h_ => f1_ h_.1)] at H
                  have f1b0 : ((s4.length : Int) == 1) = false := beq_eq_false_iff_ne.2 f1_
                  obtain ⟨key2, B8, H⟩ := Option.bind_eq_some_iff.mp H
                  by_cases g1_ : key2.size ≤ 1000000 ∧ keys2.length < 1000000
                  ·rw [if_pos g1_] at H
                   have HK8 := Aside0.mk g1_
                   clear g1_
                   have B8 := Aside0.mk B8
                   by_cases hin : hasT keys2 key2 = true
                   ·rw [if_pos hin] at H
                    have H' := Aside0.mk H
                    clear H
                    go_wp2_with (first | ((with_reducible refine gate_callee (f := 17) rfl ?_); refine goesL_ (some 87) rfl rfl Tryz.func17 (by kernel_rfl) rfl #[u13] rfl (by (try simp only [List.map_toArray, List.map_cons, List.map_nil]); first | done | rfl) ?_; (with_reducible refine (slices_Sort_string_string.calls (fun k_ => some k_ = u13.ownBlock) u13 nx s3 w6 _ ?side1 ?side2 B6.out).mono ?_); (case side1 => exact (by repeat (first | (with_reducible first | exact HNB.out | apply below_alloc | apply pw_below_drewN | apply below_drew1) | exact HNB.out))); (case side2 => exact Kd.R_tight rfl ((by (with_reducible repeat (first | apply Kd.R_alloc | apply Kd.R_drewN | apply Kd.R_drew)); exact HN.out))); rintro e w87 ⟨rfl, ho, hb, hkp⟩; refine ⟨_, rfl, ?_⟩; have n0_ := Aside0.mk (Kd.R_mono (ok' := fun _ => True) ho (fun _ _ => trivial)); have n1_ := Aside0.mk hb; clear HN HNB ho hb hkp; have HN := n0_; have HNB := n1_; clear n0_ n1_) | ((with_reducible refine gate_callee (f := 18) rfl ?_); refine goesL_ (some 89) rfl rfl Tryz.func18 (by kernel_rfl) rfl #[u13] rfl (by (try simp only [List.map_toArray, List.map_cons, List.map_nil]); first | done | rfl) ?_; (with_reducible refine (slices_Compact_string_string.calls (fun k_ => some k_ = u13.ownBlock) u13 s3 s4 w6 _ ?side1 ?side2 B7.out).mono ?_); (case side1 => exact (by repeat (first | (with_reducible first | exact HNB.out | apply below_alloc | apply pw_below_drewN | apply below_drew1) | exact HNB.out))); (case side2 => exact Kd.R_tight rfl ((by (with_reducible repeat (first | apply Kd.R_alloc | apply Kd.R_drewN | apply Kd.R_drew)); exact HN.out))); rintro e w89 ⟨v89, rfl, ho, hb, hkp, hob⟩; refine ⟨_, rfl, ?_⟩; have n0_ := Aside0.mk (Kd.R_mono (ok' := fun _ => True) ho (fun _ _ => trivial)); have n1_ := Aside0.mk hb; clear HN HNB ho hb hkp hob; have HN := n0_; have HNB := n1_; clear n0_ n1_; obtain ⟨a89, c89, e89⟩ := Kd.R_slice HN.out; subst e89; have hbk := (HNB.out.block bp (blk_lt HI6.out.2.1)).trans HI6.out.2.1; have hcb1 : w89.cell? ⟨bp, 1, none⟩ = some (.string p.2) := (blk_cell hbk 1).trans rfl; clear hbk) | ((with_reducible refine gate_callee (f := 19) rfl ?_); refine goesL_ (some 104) rfl rfl Tryz.func19 (by kernel_rfl) rfl #[.slice a89 s4.length c89, .string (⟨#[44]⟩ : ByteArray)] rfl (by (try simp only [List.map_toArray, List.map_cons, List.map_nil]); first | done | rfl) ?_; (with_reducible refine (strings_Join.calls _ _ s4 _ key2 _ ?side1 ?side2 B8.out).mono ?_); (case side1 => repeat (first | exact (Kd.R_reads' HN.out).2.2 | (with_reducible refine Kd.C_alloc ?_ _) | (with_reducible refine Kd.C_drewN ?_ _) | (with_reducible refine Kd.C_drew ?_))); (case side2 => exact (Kd.R_reads' HN.out).2.1); rintro e w104 ⟨rfl, hb⟩; refine ⟨_, rfl, ?_⟩; have n0_ := Aside0.mk (sy_row HN.out (w1 := w104) (fun k hk => hb.block k (sy_lt HN.out k hk))); have n1_ := Aside0.mk (below_step (by repeat (first | (with_reducible first | exact HNB.out | apply below_alloc | apply pw_below_drewN | apply below_drew1) | exact HNB.out)) hb); clear HN HNB hb hcb1; have HN := n0_; have HNB := n1_; clear n0_ n1_; have HI7 := Aside0.mk (BInv.below HI6.out HNB.out); have hlk := set_get HI7.out.1.2.1 key2 (Nat.le_trans HK8.out.1 (by decide)); rw [hin] at hlk))
                    go_roundg k4
                    case measure => have := HK1.out; have := HK2.out; have := HK3.out; have := HK4.out; omega
                    case rel => exact ⟨_, _, _, (by first | rfl | (simp; done) | (simp [*]; done)), H', ⟨by have := HK1.out; have := HK2.out; have := HK3.out; have := HK4.out; omega⟩, HQ0, HI7⟩
                   ·rw [if_neg hin] at H
                    have hin := Bool.eq_false_iff.2 hin
                    by_cases g2_ : p.2.size + bit.size ≤ 9223372036854775807 ∧ Q2.length < 1000000
                    ·rw [if_pos g2_] at H
                     have HQL := Aside0.mk g2_.2
                     have g2b0 := eq_true g2_.1
                     have g2b2 : (9223372036854775807 < p.2.size + bit.size) = False := eq_false (Nat.not_lt.2 g2_.1)
                     clear g2_
                     have H' := Aside0.mk H
                     clear H
                     go_wp2_with (first | ((with_reducible refine gate_callee (f := 17) rfl ?_); refine goesL_ (some 87) rfl rfl Tryz.func17 (by kernel_rfl) rfl #[u13] rfl (by (try simp only [List.map_toArray, List.map_cons, List.map_nil]); first | done | rfl) ?_; (with_reducible refine (slices_Sort_string_string.calls (fun k_ => some k_ = u13.ownBlock) u13 nx s3 w6 _ ?side1 ?side2 B6.out).mono ?_); (case side1 => exact (by repeat (first | (with_reducible first | exact HNB.out | apply below_alloc | apply pw_below_drewN | apply below_drew1) | exact HNB.out))); (case side2 => exact Kd.R_tight rfl ((by (with_reducible repeat (first | apply Kd.R_alloc | apply Kd.R_drewN | apply Kd.R_drew)); exact HN.out))); rintro e w87 ⟨rfl, ho, hb, hkp⟩; refine ⟨_, rfl, ?_⟩; have n0_ := Aside0.mk (Kd.R_mono (ok' := fun _ => True) ho (fun _ _ => trivial)); have n1_ := Aside0.mk hb; clear HN HNB ho hb hkp; have HN := n0_; have HNB := n1_; clear n0_ n1_) | ((with_reducible refine gate_callee (f := 18) rfl ?_); refine goesL_ (some 89) rfl rfl Tryz.func18 (by kernel_rfl) rfl #[u13] rfl (by (try simp only [List.map_toArray, List.map_cons, List.map_nil]); first | done | rfl) ?_; (with_reducible refine (slices_Compact_string_string.calls (fun k_ => some k_ = u13.ownBlock) u13 s3 s4 w6 _ ?side1 ?side2 B7.out).mono ?_); (case side1 => exact (by repeat (first | (with_reducible first | exact HNB.out | apply below_alloc | apply pw_below_drewN | apply below_drew1) | exact HNB.out))); (case side2 => exact Kd.R_tight rfl ((by (with_reducible repeat (first | apply Kd.R_alloc | apply Kd.R_drewN | apply Kd.R_drew)); exact HN.out))); rintro e w89 ⟨v89, rfl, ho, hb, hkp, hob⟩; refine ⟨_, rfl, ?_⟩; have n0_ := Aside0.mk (Kd.R_mono (ok' := fun _ => True) ho (fun _ _ => trivial)); have n1_ := Aside0.mk hb; clear HN HNB ho hb hkp hob; have HN := n0_; have HNB := n1_; clear n0_ n1_; obtain ⟨a89, c89, e89⟩ := Kd.R_slice HN.out; subst e89; have hbk := (HNB.out.block bp (blk_lt HI6.out.2.1)).trans HI6.out.2.1; have hcb1 : w89.cell? ⟨bp, 1, none⟩ = some (.string p.2) := (blk_cell hbk 1).trans rfl; clear hbk) | ((with_reducible refine gate_callee (f := 19) rfl ?_); refine goesL_ (some 104) rfl rfl Tryz.func19 (by kernel_rfl) rfl #[.slice a89 s4.length c89, .string (⟨#[44]⟩ : ByteArray)] rfl (by (try simp only [List.map_toArray, List.map_cons, List.map_nil]); first | done | rfl) ?_; (with_reducible refine (strings_Join.calls _ _ s4 _ key2 _ ?side1 ?side2 B8.out).mono ?_); (case side1 => repeat (first | exact (Kd.R_reads' HN.out).2.2 | (with_reducible refine Kd.C_alloc ?_ _) | (with_reducible refine Kd.C_drewN ?_ _) | (with_reducible refine Kd.C_drew ?_))); (case side2 => exact (Kd.R_reads' HN.out).2.1); rintro e w104 ⟨rfl, hb⟩; refine ⟨_, rfl, ?_⟩; have n0_ := Aside0.mk (sy_row HN.out (w1 := w104) (fun k hk => hb.block k (sy_lt HN.out k hk))); have n1_ := Aside0.mk (below_step (by repeat (first | (with_reducible first | exact HNB.out | apply below_alloc | apply pw_below_drewN | apply below_drew1) | exact HNB.out)) hb); clear HN HNB hb hcb1; have HN := n0_; have HNB := n1_; clear n0_ n1_; have HI7 := Aside0.mk (BInv.below HI6.out HNB.out); have hlk := set_get HI7.out.1.2.1 key2 (Nat.le_trans HK8.out.1 (by decide)); rw [hin] at hlk; obtain ⟨w107, hup, hS, hg⟩ := set_put HI7.out.1.2.1 HK8.out.2 key2 (Nat.le_trans HK8.out.1 (by decide)); have n0_ := Aside0.mk (sy_row HN.out (w1 := w107) (fun k hk => hg.block k (sy_lt HN.out k hk) (fun e_ => by have h1_ := own_base (Kd.own_of_R HN.out) k hk; have h2_ := set_lt HI6.out.1.2.1; injection e_ with e_; omega))); have HOB := Aside0.mk (fun k (hk : (.slice a89 s4.length c89 : Value).ownBlock = some k) => own_base (Kd.own_of_R HN.out) k hk); clear HN; have HN := n0_; clear n0_; have HI8 := Aside0.mk (BInv.put HI7.out hS hg); clear hS hg; have hbk := HI8.out.2.1; have hcb1 : w107.cell? ⟨bp, 1, none⟩ = some (.string p.2) := (blk_cell hbk 1).trans rfl; clear hbk) | ((with_reducible refine gate_builtin (b := .append) (xs := #[.tmp 111, .tmp 118]) rfl ?_); at_builtin; refine Kd.Q_append pathK (w0 := w) w.heap.size rfl (.tmp 111) (.tmp 118) 46 45 (.agg #[.slice none 0 0, .string (⟨#[]⟩ : ByteArray)]) 40 rfl Tryz.underlying46 syInfo rfl (by decide) (by omega) u9 Q2 (s4, p.2 ++ bit) [.slice a89 s4.length c89, .string (p.2 ++ bit)] (fun k => k ≠ m) (fun k => k ≠ m ∧ some k ≠ u9.ownBlock) rfl rfl ?aP ?aK ?aF ?aO ?aB ?aS ?aL ?_; (case aP => exact ⟨[.slice a89 s4.length c89], [.string (p.2 ++ bit)], rfl, ⟨_, rfl, Kd.R_of_own (Kd.own_of_R (Kd.R_lower HN.out HI6.out.1.2.2.1.size)) (fun k hk => ⟨fun e_ => by have h1_ := HOB.out k hk; have h2_ := set_lt HI6.out.1.2.1; omega, fun e_ => by have h1_ := HOB.out k hk; have h2_ := Kd.Q_lt HI6.out.1.1 k e_.symm; omega⟩)⟩, rfl⟩); (case aK => exact fun k hk => hk); (case aF => exact fun k hk e_ => by have h2_ := set_lt HI8.out.1.2.1; omega); (case aO => exact HI8.out.1.1); (case aB => exact HI8.out.1.2.2.1); (case aS => exact HI8.out.1.2.2.1.size); (case aL => have := HQL.out; omega); intro v119 w119 ho hb hg hat; have HI9 := Aside0.mk (BInv.app HI8.out ho hb hg hat); clear ho hb hg hat hcb1))
                     go_roundg k4
                     case measure => have := HK1.out; have := HK2.out; have := HK3.out; have := HK4.out; omega
                     case rel => exact ⟨_, _, _, (by first | rfl | (simp; done) | (simp [*]; done)), H', ⟨by have := HK1.out; have := HK2.out; have := HK3.out; have := HK4.out; omega⟩, ⟨by rw [List.length_append, List.length_singleton]; exact Nat.succ_pos _⟩, HI9⟩
                    ·rw [if_neg g2_] at H
                     exact absurd H (by simp)
                  ·rw [if_neg g1_] at H
                   exact absurd H (by simp)
             ·rw [if_neg d3_] at H
              exact absurd H (by simp)
            ·rw [if_neg d2_] at H
             have d2b0 : decide (b < 2) = false := decide_eq_false d2_
             clear d2_
             have H' := Aside0.mk H
             clear H
             obtain ⟨a9', c9', e9', hl9'⟩ := Kd.Q_slice HI6.out.1.1
             subst e9'
             obtain ⟨iQ, hiQ, _, hzQ, _⟩ := info_parts syInfo
             have hcut := cut_from (P := Tryz.prog) 46 45 .i64 Tryz.underlying46 hiQ 2 hzQ a9' Q2.length c9' 1 (by decide) (by have := HQ0.out; omega)
             have hqd := Kd.Q_drop (k := 1) HI6.out.1.1 (by have := HQ0.out; omega)
             clear hiQ hzQ
             obtain ⟨v9', hv9⟩ : ∃ v : Value, v = (.slice (if c9' = 1 then a9' else a9'.map (·.add (1 * pathK.sz))) (Q2.length - 1) (c9' - 1)) := ⟨_, rfl⟩
             rw [← hv9] at hqd
             have hcut' : ∀ W : World, (Instr.slice 46 (.slice a9' Q2.length c9') (some (.int .i64 1)) none none).run Tryz.prog W = .ok v9' W := by rw [hv9]; exact hcut
             clear hcut hv9
             have HQD := Aside0.mk hqd
             clear hqd
             go_wp2
             go_roundg k3
             case measure => have := HK1.out; have := HK2.out; have := HK3.out; omega
             case rel => exact ⟨_, _, H', ⟨by have := HK1.out; have := HK2.out; have := HK3.out; omega⟩, ⟨⟨HQD.out, HI6.out.1.2⟩⟩⟩
         ·rw [if_neg d1_] at H
          have d1b0 : decide (0 < (Q.length : Int)) = false := decide_eq_false d1_
          have d1b1 : decide (0 < Q.length) = false := decide_eq_false (by omega)
          clear d1_
          simp only [Option.some.injEq, Prod.mk.injEq] at H
          obtain ⟨rfl, rfl⟩ := H
          go_wp2
          go_ret2
          exact ⟨by first | rfl | (simp; done) | (simp [*]; done), HI.out.2.2.1⟩
      ·rw [if_neg c9_] at H
       exact absurd H (by simp)
 ·replace H : some ((⟨#[]⟩ : ByteArray), false) = some (r1, r2) := by rw [if_neg c1_] at H; exact H
  have c1b0 : t = false := by cases t <;> simp_all
  subst c1b0
  clear c1_
  simp only [Option.some.injEq, Prod.mk.injEq] at H
  obtain ⟨rfl, rfl⟩ := H
  go_enter Tryz.func7, Tryz.ntmps7
  go_wp2_with (first | (go_at_call 9; (with_reducible refine (impl_IsCompleteCode.calls k _ _ l0 false _ ?s1 ?s2 A1.out).mono ?_); (case s1 => exact HR0.out); (case s2 => exact HC0.out); rintro e w18 ⟨rfl, hb⟩; have HB := Aside0.mk hb; clear hb))
  go_ret2
  exact ⟨by first | rfl | (simp; done) | (simp [*]; done), (by repeat (first | (with_reducible first | exact HB.out | apply below_alloc | apply pw_below_drewN | apply below_drew1) | exact HB.out))⟩
def spec_l03Index.l0 : Nat → List ByteArray → ByteArray → Int → Option (Int)
 | 0, _, _, _ => none
 | k + 1, x0, x1, x5 => if x5 < (x0.length : Int) then (if 0 ≤ x5 then (if (rdOf ByteArray.empty x0 x5).toList = x1.toList then (some x5) else (spec_l03Index.l0 k x0 x1 (wrap64 (x5 + 1)))) else (none)) else (some (-1))
def spec_l03Index.f (k : Nat) (l0 : List ByteArray) (a1 : ByteArray) : Option (Int) := spec_l03Index.l0 k l0 a1 0
set_option maxHeartbeats 8000000 in
set_option maxRecDepth 100000 in
theorem spec_l03Index.calls (k : Nat) (A0 : Option Addr) (c0 : Nat) (l0 : List ByteArray) (a1 : ByteArray) (r : Int) (w : World) (hr0 : Kd.C Kd.string w A0 l0.length l0) (hc0 : l0.length ≤ c0) (h : spec_l03Index.f k l0 a1 = some r) :
 Calls Tryz.prog 24 #[.slice A0 l0.length c0, .string a1] w fun e w' => e = .returned (.int .i64 r) ∧ Drawn0 w w' := by
 have HR0 := Aside0.mk hr0
 have HC0 := Aside0.mk hc0
 clear hr0 hc0
 have H : (spec_l03Index.l0 k l0 a1 0) = some r := h
 clear h
 have H' := Aside0.mk H
 clear H
 go_enter Tryz.func24, Tryz.ntmps24
 go_wp2
 go_loopg [5] k (fun kq v5 w' => ∃ (x5_1 : Int), v5 = .int .i64 x5_1 ∧ Aside0 (spec_l03Index.l0 kq l0 a1 x5_1 = some r) ∧ Aside0 (kq ≤ k) ∧ Drawn0 w w')
 case atStart => exact ⟨(0), (by first | rfl | (simp; done) | (simp [*]; done)), H', ⟨Nat.le_refl _⟩, by repeat (first | exact Drawn0.refl _ | apply Drawn0.step)⟩
 case round =>
  clear H'
  try clear c2
  try clear p2
  obtain ⟨x5_1, rfl, HA, HK1, ⟨m1, rfl⟩⟩ := hrel
  cases gk with
  | zero => exact absurd HA.out (by simp [spec_l03Index.l0])
  | succ k1 =>
   have H := HA.out
   clear HA
   simp only [spec_l03Index.l0] at H
   by_cases c3 : x5_1 < (l0.length : Int)
   ·rw [if_pos c3] at H
    have c3b0 : decide (x5_1 < (l0.length : Int)) = true := decide_eq_true c3
    clear c3
    by_cases c4 : 0 ≤ x5_1
    ·rw [if_pos c4] at H
     have c4b0 : decide (0 ≤ x5_1) = true := decide_eq_true c4
     clear c4
     by_cases c5 : (rdOf ByteArray.empty l0 x5_1).toList = a1.toList
     ·rw [if_pos c5] at H
      have c5b0 : ((rdOf ByteArray.empty l0 x5_1).toList == a1.toList) = true := beq_iff_eq.mpr c5
      have c5b1 : ((rdOf ByteArray.empty l0 x5_1).toList != a1.toList) = false := bne_eq_false_iff_eq.mpr c5
      clear c5
      obtain rfl := Option.some.inj H
      have p141 : 0 ≤ (x5_1 : Int) := of_decide_eq_true (by first | (with_reducible assumption) | assumption)
      have q141 : x5_1 < (l0.length : Int) := of_decide_eq_true (by first | (with_reducible assumption) | assumption)
      obtain ⟨ad141, e141, hx141_0⟩ := Kd.at_string HR0.out x5_1 p141 q141
      cases e141
      replace p141 := eq_true p141
      replace q141 := eq_true q141
      go_wp2
      go_ret
      exact ⟨by first | rfl | (simp; done) | (simp [*]; done), by repeat (first | exact Drawn0.refl _ | apply Drawn0.step)⟩
     ·rw [if_neg c5] at H
      have c5b0 : ((rdOf ByteArray.empty l0 x5_1).toList == a1.toList) = false := beq_eq_false_iff_ne.mpr c5
      have c5b1 : ((rdOf ByteArray.empty l0 x5_1).toList != a1.toList) = true := bne_iff_ne.mpr c5
      have H' := Aside0.mk H
      clear H
      have p141 : 0 ≤ (x5_1 : Int) := of_decide_eq_true (by first | (with_reducible assumption) | assumption)
      have q141 : x5_1 < (l0.length : Int) := of_decide_eq_true (by first | (with_reducible assumption) | assumption)
      obtain ⟨ad141, e141, hx141_0⟩ := Kd.at_string HR0.out x5_1 p141 q141
      cases e141
      replace p141 := eq_true p141
      replace q141 := eq_true q141
      go_wp2
      go_roundg k1
      case measure => have := HK1.out; omega
      case rel => exact ⟨(wrap64 (x5_1 + 1)), (by first | rfl | (simp; done) | (simp [*]; done)), H', ⟨by have := HK1.out; omega⟩, by repeat (first | exact Drawn0.refl _ | apply Drawn0.step)⟩
    ·rw [if_neg c4] at H
     exact absurd H (by simp)
   ·rw [if_neg c3] at H
    have c3b0 : decide (x5_1 < (l0.length : Int)) = false := decide_eq_false c3
    clear c3
    obtain rfl := Option.some.inj H
    go_wp2
    go_ret
    exact ⟨by first | rfl | (simp; done) | (simp [*]; done), by repeat (first | exact Drawn0.refl _ | apply Drawn0.step)⟩
end Go.Proofs.YtabppnjmdlaohaaGreatDoor.QFnSynchronised
