/- Made small by wip/pack.py: lemmas and contracts that the law's row leans on. -/
import Derived.Test.YtbjmbfjbjkhhdaaGreatDoorZFnTopOfAll27
import Derived.Test.YtbjmbfjbjkhhdaaGreatDoorZFnTopOfAll28
import Derived.Test.YtbjmbfjbjkhhdaaGreatDoorZFnTopOfAll29
namespace Go.Proofs.YtbjmbfjbjkhhdaaGreatDoor.QFnTopOfAll
open Go.RowKit Go.Proofs.YtbjmbfjbjkhhdaaGreatDoorW.PrintWords Go.Proofs.YtbjmbfjbjkhhdaaGreatDoorW.PrintLast Go.Proofs.YtbjmbfjbjkhhdaaGreatDoorW.PrintMore
attribute [local go_sem] max2_int min2_int max_two min_two max_three min_three max_four min_four
set_option linter.unusedVariables false
set_option linter.unusedSimpArgs false
def impl_listText.l0 : Nat → List ByteArray → List Int → Int → Int → Option (ByteArray)
 | 0, _, _, _, _ => none
 | k + 1, x3, x10, x11, x12 => if x12 < x11 then (if 0 ≤ x12 then (if x12 < (x10.length : Int) then ((impl_Decimal.f (rd x10 x12)).bind fun t158 => (if x3.length < 8796093022208 then (impl_listText.l0 k (x3 ++ [t158]) x10 x11 (wrap64 (x12 + 1))) else (none))) else (none)) else (none)) else ((strings_Join.f x3 (⟨#[44]⟩ : ByteArray)).bind fun t162 => (some t162))
def impl_listText.f (k : Nat) (l0 : List Int) : Option (ByteArray) := if (l0.length : Int) = 0 then (some (⟨#[110, 111, 110, 101]⟩ : ByteArray)) else (impl_listText.l0 k (([] : List ByteArray)) l0 (l0.length : Int) 0)
set_option maxHeartbeats 8000000 in
set_option maxRecDepth 100000 in
theorem impl_listText.calls (k : Nat) (A0 : Option Addr) (c0 : Nat) (l0 : List Int) (r : ByteArray) (w : World) (hr0 : Kd.C (Kd.int .i64) w A0 l0.length l0) (hc0 : l0.length ≤ c0) (hT : LibW w) (h : impl_listText.f k l0 = some r) :
 Calls Tryz.prog 27 #[.slice A0 l0.length c0] w fun e w' => e = .returned (.string r) ∧ Below w.heap.size w w' := by
 have HT := Aside0.mk hT
 clear hT
 have HR0 := Aside0.mk hr0
 have HC0 := Aside0.mk hc0
 clear hr0 hc0
 have HB := Aside0.mk (Below.refl w.heap.size w)
 have H : (if (l0.length : Int) = 0 then (some (⟨#[110, 111, 110, 101]⟩ : ByteArray)) else (impl_listText.l0 k (([] : List ByteArray)) l0 (l0.length : Int) 0)) = some r := h
 clear h
 by_cases c2 : (l0.length : Int) = 0
 ·rw [if_pos c2] at H
  have c2b0 := beq_iff_eq.mpr c2
  have c2b1 := bne_eq_false_iff_eq.mpr c2
  clear c2
  obtain rfl := Option.some.inj H
  go_enter Tryz.func27, Tryz.ntmps27
  go_wp2
  go_ret
  exact ⟨Qe0_, Qa0_⟩
 ·rw [if_neg c2] at H
  have c2b0 := beq_eq_false_iff_ne.mpr c2
  have c2b1 := bne_iff_ne.mpr c2
  have c2b2 : ¬ (l0 = []) := fun h_ => c2 (by rw [h_]; rfl)
  obtain ⟨y154, hy154⟩ : ∃ y_ : List ByteArray, y_ = (([] : List ByteArray)) := ⟨_, rfl⟩
  replace H : (impl_listText.l0 k y154 l0 (l0.length : Int) 0) = some r := by first | (rw [hy154]; with_reducible exact H) | (have H2_ := (Option.bind_some _ _).symm.trans H; rw [hy154]; with_reducible exact H2_) | (have H2_ := (Option.bind_some _ _).symm.trans H; with_reducible exact H2_) | with_reducible exact H | (rw [hy154]; exact H) | exact H
  have Ny154 := Aside0.mk hy154
  clear hy154
  have H' := Aside0.mk H
  clear H
  go_enter Tryz.func27, Tryz.ntmps27
  go_wp2_with (first | ((with_reducible refine gate_dst (N := 9) rfl ?_); refine Kd.R_lit Kd.string _ 9 ?hg (N := 9) ?hd (xs := ([] : List ByteArray)) (inner := []) (ok := fun _ => True) (okp := fun _ => True) ?hr ?hp (fun _ hk => hk) trivial (Below.refl _ _) (Nat.le_refl _) (by simp) ?_; (case hd => rfl); (case hg => rfl); (case hr => exact Qh0_); (case hp => exact (Reps.none _ _)); intro v155 w3 ho4 hb hg_ hnew_; clear hg_ hnew_; (first | rw [← Ny154.out] at ho4 | (simp only [Int.reduceToNat] at ho4; rw [← Ny154.out] at ho4)); have n0_ := Aside0.mk (Kd.R_lower ho4 (below_size Qa0_)); have n1_ := Aside0.mk (below_step Qa0_ hb); clear HB; have HO156 := n0_; have HB := n1_; clear n0_ n1_; clear hb ho4))
  go_loopg [3, 12] k (fun kq v3 v12 w' => ∃ (x3_1 : List ByteArray) (x12_1 : Int), v12 = .int .i64 x12_1 ∧ Aside0 (impl_listText.l0 kq x3_1 l0 (l0.length : Int) x12_1 = some r) ∧ Aside0 (kq ≤ k) ∧ Aside0 (Kd.R Kd.string 9 w' w.heap.size (fun _ => True) v3 x3_1) ∧ Aside0 (Below w.heap.size w w'))
  case atStart => exact ⟨(y154), (0), Qc0_, H', ⟨Nat.le_refl _⟩, ⟨Qr_ HO156.out⟩, ⟨Qa0_⟩⟩
  case round =>
   clear H'
   try clear c2
   try clear c2b0
   try clear c2b1
   try clear c2b2
   try clear p2
   obtain ⟨x3_1, x12_1, rfl, HA, HK1, HO_3, HB⟩ := hrel
   cases gk with
   | zero => exact absurd HA.out (by simp [impl_listText.l0])
   | succ k1 =>
    have H := HA.out
    clear HA
    simp only [impl_listText.l0] at H
    by_cases c5 : x12_1 < (l0.length : Int)
    ·rw [if_pos c5] at H
     have c5b0 := decide_eq_true c5
     clear c5
     by_cases c6 : 0 ≤ x12_1
     ·rw [if_pos c6] at H
      have c6b0 := decide_eq_true c6
      clear c6
      by_cases c7 : x12_1 < (l0.length : Int)
      ·rw [if_pos c7] at H
       have c7b0 := decide_eq_true c7
       clear c7
       replace H := Option.bind_eq_some_iff.mp H
       obtain ⟨t158, A80, H⟩ := H
       try dsimp only at H
       have A8 := Aside0.mk A80
       clear A80
       by_cases c9 : x3_1.length < 8796093022208
       ·rw [if_pos c9] at H
        have LMc9 := Aside0.mk c9
        clear c9
        obtain ⟨y159, hy159⟩ : ∃ y_ : List ByteArray, y_ = (x3_1 ++ [t158]) := ⟨_, rfl⟩
        replace H : (impl_listText.l0 k1 y159 l0 (l0.length : Int) (wrap64 (x12_1 + 1))) = some r := by first | (rw [hy159]; with_reducible exact H) | (have H2_ := (Option.bind_some _ _).symm.trans H; rw [hy159]; with_reducible exact H2_) | (have H2_ := (Option.bind_some _ _).symm.trans H; with_reducible exact H2_) | with_reducible exact H | (rw [hy159]; exact H) | exact H
        have Ny159 := Aside0.mk hy159
        clear hy159
        have H' := Aside0.mk H
        clear H
        have p157 : 0 ≤ (x12_1 : Int) := of_decide_eq_true Qf0_
        have q157 : x12_1 < (l0.length : Int) := of_decide_eq_true Qf0_
        obtain ⟨ad157, e157, hx157_0⟩ := Kd.at_int HR0.out x12_1 p157 q157
        cases e157
        replace hx157_0 := (HB.out.cell (World.block_lt_of_cell? w _ hx157_0)).trans hx157_0
        replace p157 := eq_true p157
        replace q157 := eq_true q157
        go_wp2_with (first | ((with_reducible refine gate_callee (f := 9) rfl ?_); refine goesL_ (some 18) rfl rfl Tryz.func9 Qi0_ rfl #[.int .i64 (rd l0 x12_1)] rfl Qb0_ ?_; (with_reducible refine (impl_Decimal.calls (rd l0 x12_1) t158 _ ?tb A8.out).mono ?_); (case tb => exact Qg0_); rintro e w10 ⟨rfl, hb⟩; refine ⟨_, rfl, ?_⟩; have n0_ := Aside0.mk (Kd.R_below (Qr_ HO_3.out) hb); have n1_ := Aside0.mk (below_step Qa0_ hb); clear HO_3; clear HB; have HO_3 := n0_; have HB := n1_; clear n0_ n1_; (try clear hb); (try clear hb2); (try clear hk); (try clear hi)) | ((with_reducible refine gate_builtin (b := .append) (xs := #[.tmp 16, .tmp 19]) rfl ?_); at_builtin; refine Kd.R_append Kd.string (w0 := w) w.heap.size rfl (.tmp 16) (.tmp 19) 23 9 (.string ⟨#[]⟩) 16 rfl Tryz.underlying23 info9 rfl (by decide) (by omega) u3 x3_1 t158 [.string t158] (fun _ => True) (fun _ => False) rfl rfl ?aP (fun _ hk => hk.elim) ?aF ?aO ?aB ?aS ?aL ?_; (case aP => exact rfl); (case aB => exact Qa0_); (case aF => exact (fun _ _ => trivial)); (case aO => exact (Qr_ HO_3.out)); (case aS => exact (below_size Qa0_)); (case aL => have := LMc9.out; omega); intro v160 w11 ho hb hg hat; rw [← Ny159.out] at ho; have n0_ := Aside0.mk (hb); have n1_ := Aside0.mk (ho); clear HB; clear HO_3; have HB := n0_; have HO161 := n1_; clear n0_ n1_; clear ho hb hg hat))
        go_roundg k1
        case measure => have := HK1.out; omega
        case rel => exact ⟨(y159), (wrap64 (x12_1 + 1)), Qc0_, H', ⟨Qp0_⟩, ⟨Qr_ HO161.out⟩, ⟨Qa0_⟩⟩
       ·rw [if_neg c9] at H
        exact absurd H (by simp)
      ·rw [if_neg c7] at H
       exact absurd H (by simp)
     ·rw [if_neg c6] at H
      exact absurd H (by simp)
    ·rw [if_neg c5] at H
     have c5b0 := decide_eq_false c5
     clear c5
     replace H := Option.bind_eq_some_iff.mp H
     obtain ⟨t162, A120, H⟩ := H
     try dsimp only at H
     have A12 := Aside0.mk A120
     clear A120
     obtain rfl := Option.some.inj H
     obtain ⟨Ao13, co13, eo13⟩ := Kd.R_slice HO_3.out
     subst eo13
     go_wp2_with (first | ((with_reducible refine gate_callee (f := 67) rfl ?_); refine goesL_ (some 23) rfl rfl Tryz.func67 Qi0_ rfl #[.slice Ao13 x3_1.length co13, .string (⟨#[44]⟩ : ByteArray)] rfl Qb0_ ?_; (with_reducible refine (strings_Join.calls _ _ x3_1 (⟨#[44]⟩ : ByteArray) t162 _ ?side1 ?side2 A12.out).mono ?_); (case side1 => exact Qc_ (Kd.R_reads' HO_3.out).2.2); (case side2 => exact (Kd.R_reads' HO_3.out).2.1); rintro e w14 ⟨rfl, hb⟩; refine ⟨_, rfl, ?_⟩; have n0_ := Aside0.mk (Kd.R_below (Qr_ HO_3.out) hb); have n1_ := Aside0.mk (below_step Qa0_ hb); clear HO_3; clear HB; have HO_3 := n0_; have HB := n1_; clear n0_ n1_; (try clear hb); (try clear hb2); (try clear hk); (try clear hi)))
     go_ret
     exact ⟨Qe0_, Qa0_⟩
def impl_ListText.f (k : Nat) (l0 : List Int) : Option (ByteArray × Bool) := if (l0.length : Int) > 64 then (some ((⟨#[]⟩ : ByteArray), false)) else ((impl_areIn.f k l0 (-1000000000000000) 1000000000000000).bind fun t163 => (if t163 = true then ((impl_listText.f k l0).bind fun t164 => (some (t164, true))) else (some ((⟨#[]⟩ : ByteArray), false))))
set_option maxHeartbeats 8000000 in
set_option maxRecDepth 100000 in
theorem impl_ListText.calls (k : Nat) (A0 : Option Addr) (c0 : Nat) (l0 : List Int) (r1 : ByteArray) (r2 : Bool) (w : World) (hr0 : Kd.C (Kd.int .i64) w A0 l0.length l0) (hc0 : l0.length ≤ c0) (hT : LibW w) (h : impl_ListText.f k l0 = some (r1, r2)) :
 Calls Tryz.prog 5 #[.slice A0 l0.length c0] w fun e w' => e = .returned (.tuple #[.string r1, .bool r2]) ∧ Below w.heap.size w w' := by
 have HT := Aside0.mk hT
 clear hT
 have HR0 := Aside0.mk hr0
 have HC0 := Aside0.mk hc0
 clear hr0 hc0
 have HB := Aside0.mk (Below.refl w.heap.size w)
 have H : (if (l0.length : Int) > 64 then (some ((⟨#[]⟩ : ByteArray), false)) else ((impl_areIn.f k l0 (-1000000000000000) 1000000000000000).bind fun t163 => (if t163 = true then ((impl_listText.f k l0).bind fun t164 => (some (t164, true))) else (some ((⟨#[]⟩ : ByteArray), false))))) = some (r1, r2) := h
 clear h
 by_cases c2 : (l0.length : Int) > 64
 ·rw [if_pos c2] at H
  have c2b0 := decide_eq_true c2
  have c2b1 : decide (64 < l0.length) = true := decide_eq_true (by omega)
  clear c2
  simp only [Option.some.injEq, Prod.mk.injEq] at H
  obtain ⟨rfl, rfl⟩ := H
  go_enter Tryz.func5, Tryz.ntmps5
  go_wp2
  go_ret2
  exact ⟨Qe0_, Qa0_⟩
 ·rw [if_neg c2] at H
  have c2b0 := decide_eq_false c2
  have c2b1 : decide (64 < l0.length) = false := decide_eq_false (by omega)
  clear c2
  replace H := Option.bind_eq_some_iff.mp H
  obtain ⟨t163, A30, H⟩ := H
  try dsimp only at H
  have A3 := Aside0.mk A30
  clear A30
  by_cases c4 : t163 = true
  ·subst c4
   rw [if_pos rfl] at H
   have H1 := H
   clear H
   have H := H1
   clear H1
   replace H := Option.bind_eq_some_iff.mp H
   obtain ⟨t164, A50, H⟩ := H
   try dsimp only at H
   have A5 := Aside0.mk A50
   clear A50
   simp only [Option.some.injEq, Prod.mk.injEq] at H
   obtain ⟨rfl, rfl⟩ := H
   go_enter Tryz.func5, Tryz.ntmps5
   go_wp2_with (first | (go_at_call 26; (with_reducible refine (impl_areIn.calls k _ _ l0 (-1000000000000000) 1000000000000000 true _ ?side1 ?side2 A3.out).mono ?_); (case side1 => exact Qc_ HR0.out); (case side2 => exact HC0.out); rintro e w' ⟨rfl, ⟨nd, rfl⟩⟩) | ((with_reducible refine gate_callee (f := 27) rfl ?_); refine goesL_ (some 13) rfl rfl Tryz.func27 Qi0_ rfl #[.slice A0 l0.length c0] rfl Qb0_ ?_; (with_reducible refine (impl_listText.calls k _ _ l0 t164 _ ?side1 ?side2 ?tb A5.out).mono ?_); (case tb => exact Qg0_); (case side1 => exact Qc_ HR0.out); (case side2 => exact HC0.out); rintro e w6 ⟨rfl, hb⟩; refine ⟨_, rfl, ?_⟩; have n0_ := Aside0.mk (below_step Qa0_ hb); clear HB; have HB := n0_; clear n0_; (try clear hb); (try clear hb2); (try clear hk); (try clear hi)))
   go_ret2
   exact ⟨Qe0_, Qa0_⟩
  ·replace c4 := Bool.eq_false_iff.mpr c4
   subst c4
   rw [if_neg (show ¬ (false = true) by decide)] at H
   have H1 := H
   clear H
   have H := H1
   clear H1
   simp only [Option.some.injEq, Prod.mk.injEq] at H
   obtain ⟨rfl, rfl⟩ := H
   go_enter Tryz.func5, Tryz.ntmps5
   go_wp2_with (first | (go_at_call 26; (with_reducible refine (impl_areIn.calls k _ _ l0 (-1000000000000000) 1000000000000000 false _ ?side1 ?side2 A3.out).mono ?_); (case side1 => exact Qc_ HR0.out); (case side2 => exact HC0.out); rintro e w' ⟨rfl, ⟨nd, rfl⟩⟩))
   go_ret2
   exact ⟨Qe0_, Qa0_⟩
def strings_Trim.f (a0 : ByteArray) (a1 : ByteArray) : Option (ByteArray) := if a0.size ≤ 9223372036854775807 ∧ a1.size < 4294967281 ∧ a1.data.toList.all (fun b => decide (b.toNat < 128)) = true then some ⟨(Lib.trimS a0.data.toList a1.data.toList).toArray⟩ else none
theorem strings_Trim.calls (a0 : ByteArray) (a1 : ByteArray) (r : ByteArray) (w : World) (h : strings_Trim.f a0 a1 = some r) :
 Calls Tryz.prog 110 #[.string a0, .string a1] w fun e w' => e = .returned (.string r) ∧ Below w.heap.size w w' := by
 unfold strings_Trim.f at h
 by_cases hc : a0.size ≤ 9223372036854775807 ∧ a1.size < 4294967281 ∧ a1.data.toList.all (fun b => decide (b.toNat < 128)) = true
 ·rw [if_pos hc] at h
  obtain rfl := Option.some.inj h
  exact Tryz.strings_Trim a0 a1 w hc.1 hc.2.1 (fun _ b hb => of_decide_eq_true (List.all_eq_true.1 hc.2.2 b (List.mem_of_getElem? hb)))
 ·rw [if_neg hc] at h
  cases h
def impl_areBits.f (a0 : ByteArray) : Option (Bool) := (strings_Trim.f a0 (⟨#[48, 49]⟩ : ByteArray)).bind fun t166 => (some (t166.toList == ([] : List UInt8)))
set_option maxHeartbeats 8000000 in
set_option maxRecDepth 100000 in
theorem impl_areBits.calls (a0 : ByteArray) (r : Bool) (w : World) (h : impl_areBits.f a0 = some r) :
 Calls Tryz.prog 79 #[.string a0] w fun e w' => e = .returned (.bool r) ∧ Below w.heap.size w w' := by
 have HB := Aside0.mk (Below.refl w.heap.size w)
 have H : ((strings_Trim.f a0 (⟨#[48, 49]⟩ : ByteArray)).bind fun t166 => (some (t166.toList == ([] : List UInt8)))) = some r := h
 clear h
 replace H := Option.bind_eq_some_iff.mp H
 obtain ⟨t166, A20, H⟩ := H
 try dsimp only at H
 have A2 := Aside0.mk A20
 clear A20
 obtain rfl := Option.some.inj H
 go_enter Tryz.func79, Tryz.ntmps79
 go_wp2_with (first | ((with_reducible refine gate_callee (f := 110) rfl ?_); refine goesL_ (some 4) rfl rfl Tryz.func110 Qi0_ rfl #[.string a0, .string (⟨#[48, 49]⟩ : ByteArray)] rfl Qb0_ ?_; (with_reducible refine (strings_Trim.calls a0 (⟨#[48, 49]⟩ : ByteArray) t166 _ A2.out).mono ?_); rintro e w3 ⟨rfl, hb⟩; refine ⟨_, rfl, ?_⟩; have n0_ := Aside0.mk (below_step Qa0_ hb); clear HB; have HB := n0_; clear n0_; (try clear hb); (try clear hb2); (try clear hk); (try clear hi)))
 go_ret
 exact ⟨Qe0_, Qa0_⟩
def setAt (w : World) (m : Nat) (ks : List ByteArray) : Prop := ∃ n, n ≤ ks.length ∧ w.ownsMap Tryz.prog 9 (plainElem (H := Unit) Tryz.prog 4) m n (Go.Maps.setOf (.lit (.bool true)) (ks.map fun x => .string x.data.toList))
theorem set_made (w : World) : setAt (w.alloc (.map #[] 0)) w.heap.size [] := ⟨0, Nat.le_refl _, World.ownsMap_made _ _ _ _⟩
theorem set_lt {w : World} {m : Nat} {ks : List ByteArray} (h : setAt w m ks) : m < w.heap.size := by
 obtain ⟨n, h1, h2⟩ := h
 exact h2.lt
theorem set_below {w w1 : World} {m : Nat} {ks : List ByteArray} (h : setAt w m ks) (hm : w1.heap[m]? = w.heap[m]?) : setAt w1 m ks := by
 obtain ⟨n, h1, es, clock, hb, F, hs, hD⟩ := h
 exact ⟨n, h1, es, clock, hm.trans hb, F, hs, hD⟩
theorem set_put {w : World} {m : Nat} {ks : List ByteArray} (h : setAt w m ks) (hk : ks.length < 1000000) (x : ByteArray) (hx : x.size ≤ maxLen) :
 ∃ w1, (Instr.mapUpdate 121 (.map (some m)) (.string x) (.bool true)).run Tryz.prog w = .ok () w1 ∧ setAt w1 m (ks ++ [x]) ∧ w.grownBy w1 (some m) := by
 obtain ⟨n, h1, h2⟩ := h
 obtain ⟨w1, e1, e2, e3⟩ := h2.update (Go.Maps.string_keyed Tryz.underlying9) Tryz.underlying121 (by unfold maxLen; omega) (key := .string x) (val := .bool true) (kl := .string x.data.toList) (d := .lit (.bool true)) (ps := []) (Go.WideMaps.keyOf_string_mk Tryz.underlying9 hx) (plainElem_bool Tryz.underlying4 true)
 refine ⟨w1, e1, ⟨n + 1, by rw [List.length_append, List.length_singleton]; omega, ?_⟩, e3⟩
 rw [List.map_append, List.map_singleton, Go.Maps.setOf_snoc]
 exact e2
def hasT (ks : List ByteArray) (x : ByteArray) : Bool := ks.any fun y => y.data.toList == x.data.toList
theorem set_fold (x : ByteArray) (z : DataW Unit) : ∀ (ks : List ByteArray) (D : DataW Unit), Go.Maps.IsMap D → (ks.foldl (fun m y => m.put (.string y.data.toList) (.lit (.bool true))) D).atKey (.string x.data.toList) z = if hasT ks x = true then .lit (.bool true) else D.atKey (.string x.data.toList) z
 | [], D, _ => rfl
 | y :: r, D, hD => by
  rw [List.foldl_cons, set_fold x z r _ (hD.put _ _)]
  unfold hasT
  rw [List.any_cons]
  by_cases h : y.data.toList = x.data.toList
  ·rw [h, Go.Maps.atKey_put_same hD (by first | trivial | exact ⟨_, rfl⟩ | simp [Go.WideAt.IsKeyLit]), beq_self_eq_true, Bool.true_or]
   split <;> rfl
  ·rw [Go.Maps.atKey_put_other (fun e => h (by injection e with e; exact e.symm)), beq_eq_false_iff_ne.2 h, Bool.false_or]
theorem set_at (ks : List ByteArray) (x : ByteArray) : (Go.Maps.setOf (H := Unit) (.lit (.bool true)) (ks.map fun x => .string x.data.toList)).atKey (.string x.data.toList) (.lit (.bool false)) = .lit (.bool (hasT ks x)) := by
 unfold Go.Maps.setOf
 rw [List.foldl_map, set_fold x _ ks _ Go.Maps.isMap_empty]
 cases hasT ks x <;> rfl
theorem plain_bool_inv {P : Program} {e : TypeId} (he : P.underlying e = some .bool) {v : Value} {b : Bool} {ps : List MemPlace} (h : plainElem (H := Unit) P e v = some (.lit (.bool b), ps)) : v = .bool b := by
 unfold plainElem at h
 rw [he] at h
 cases v <;> simp at h
 rw [h.1]
theorem set_get {w : World} {m : Nat} {ks : List ByteArray} (h : setAt w m ks) (x : ByteArray) (hx : x.size ≤ maxLen) : (Instr.lookup 121 (.map (some m)) (.string x) false).run Tryz.prog w = .ok (.bool (hasT ks x)) w := by
 obtain ⟨n, h1, h2⟩ := h
 obtain ⟨v, ps, e1, e2⟩ := h2.lookup (Go.Maps.string_keyed Tryz.underlying9) Tryz.underlying121 (z := .bool false) (Tryz.zeroValue4 _) (plainElem_bool Tryz.underlying4 false) (key := .string x) (kl := .string x.data.toList) (Go.WideMaps.keyOf_string_mk Tryz.underlying9 hx)
 rw [set_at] at e2
 have e3 := plain_bool_inv Tryz.underlying4 e2
 subst e3
 exact e1
def impl_BlockCode_areWords.l0 : Nat → Int → Int → List ByteArray → List ByteArray → Int → Option Bool
 | 0, _, _, _, _, _ => none
 | k + 1, wd, ot, xs, ks, i => if i < (xs.length : Int) then (if 0 ≤ i then ((impl_disparity.f (rdOf ByteArray.empty xs i)).bind fun d => (if ((rdOf ByteArray.empty xs i).size : Int) = wd then (if wd ≤ 1000 ∧ ks.length < 1000 then ((impl_areBits.f (rdOf ByteArray.empty xs i)).bind fun t => (if t = true then (if d ≠ 0 ∧ d ≠ ot then (some false) else (if hasT ks (rdOf ByteArray.empty xs i) = true then (some false) else (impl_BlockCode_areWords.l0 k wd ot xs (ks ++ [(rdOf ByteArray.empty xs i)]) (wrap64 (i + 1))))) else (some false))) else (none)) else (some false))) else (none)) else (some true)
theorem impl_BlockCode_areWords.mono_l : ∀ k, (∀ y0 y1 y2 y3 y4, LeO (impl_BlockCode_areWords.l0 k y0 y1 y2 y3 y4) (impl_BlockCode_areWords.l0 (k + 1) y0 y1 y2 y3 y4))
 | 0 => fun _ _ _ _ _ r h => by simp [impl_BlockCode_areWords.l0] at h
 | k + 1 => by
  have ih0 := impl_BlockCode_areWords.mono_l k
  ·intro y0 y1 y2 y3 y4
   unfold impl_BlockCode_areWords.l0
   repeat' first
   | (with_reducible exact ih0 _ _ _ _ _)
   | (with_reducible exact LeO.refl _)
   | (with_reducible exact LeO.none _)
   | (with_reducible refine LeO.ite ?_ ?_)
   | (with_reducible refine LeO.bind ?_ (fun _ => ?_))
def impl_BlockCode_areWords.f (k : Nat) (a0_0 a0_1 : Int) (l0_2 l0_3 l1 : List ByteArray) (a2 : Int) : Option Bool := if 0 ≤ a0_0 ∧ a0_0 ≤ 60 then (if (l1.length : Int) = shl .i64 1 a0_0 then (impl_BlockCode_areWords.l0 k a0_1 a2 l1 [] 0) else (some false)) else none
theorem impl_BlockCode_areWords.mono : ∀ a0 a1 a2 a3 a4 a5 k, LeO (impl_BlockCode_areWords.f k a0 a1 a2 a3 a4 a5) (impl_BlockCode_areWords.f (k + 1) a0 a1 a2 a3 a4 a5) := by
 intro a0 a1 a2 a3 a4 a5 k
 unfold impl_BlockCode_areWords.f
 exact LeO.ite (LeO.ite (impl_BlockCode_areWords.mono_l k _ _ _ _ _) (LeO.refl _)) (LeO.refl _)
def AwI (w w' : World) (m gb : Nat) (cs : Array Value) (ks : List ByteArray) : Prop := setAt w' m ks ∧ w'.heap[gb]? = some (.cells cs 25 (0, 0)) ∧ Below w.heap.size w w' ∧ w.heap.size ≤ m ∧ gb ≠ m
theorem AwI.start {w w3 : World} {gb : Nat} {cs : Array Value} (hB : Below w.heap.size w w3) (hb : w3.heap[gb]? = some (.cells cs 25 (0, 0))) : AwI w (w3.alloc (.map #[] 0)) w3.heap.size gb cs [] :=
 ⟨set_made w3, ((below_alloc (Below.refl w3.heap.size w3) _).block gb (blk_lt hb)).trans hb, hB.alloc hB.size _, hB.size, Nat.ne_of_lt (blk_lt hb)⟩
theorem aw_drew {w w1 : World} {n : Nat} (h : Below (w.drewN n).heap.size (w.drewN n) w1) : Below w.heap.size w w1 := ⟨h.os, h.tape, h.output, h.size, h.block⟩
theorem AwI.below {w w1 w2 : World} {m gb : Nat} {cs : Array Value} {ks : List ByteArray} (h : AwI w w1 m gb cs ks) (hB : Below w1.heap.size w1 w2) : AwI w w2 m gb cs ks :=
 ⟨set_below h.1 (hB.block m (set_lt h.1)), (hB.block gb (blk_lt h.2.1)).trans h.2.1, below_step h.2.2.1 hB, h.2.2.2⟩
theorem AwI.put {w w1 w2 : World} {m gb : Nat} {cs : Array Value} {ks ks2 : List ByteArray} (h : AwI w w1 m gb cs ks) (hs : setAt w2 m ks2) (hg : w1.grownBy w2 (some m)) : AwI w w2 m gb cs ks2 :=
 ⟨hs, (hg.block gb (blk_lt h.2.1) (fun e => h.2.2.2.2 (by injection e))).trans h.2.1, h.2.2.1.grown hg h.2.2.1.size (fun k e => by cases e; exact h.2.2.2.1), h.2.2.2⟩
set_option maxHeartbeats 8000000 in
set_option maxRecDepth 100000 in
theorem impl_BlockCode_areWords.calls (k : Nat) (a0_0 : Int) (a0_1 : Int) (A0_2 : Option Addr) (c0_2 : Nat) (l0_2 : List ByteArray) (A0_3 : Option Addr) (c0_3 : Nat) (l0_3 : List ByteArray) (A1 : Option Addr) (c1 : Nat) (l1 : List ByteArray) (a2 : Int) (r : Bool) (w : World) (hr0_2 : Kd.C Kd.string w A0_2 l0_2.length l0_2) (hc0_2 : l0_2.length ≤ c0_2) (hr0_3 : Kd.C Kd.string w A0_3 l0_3.length l0_3) (hc0_3 : l0_3.length ≤ c0_3) (hr1 : Kd.C Kd.string w A1 l1.length l1) (hc1 : l1.length ≤ c1) (h : impl_BlockCode_areWords.f k a0_0 a0_1 l0_2 l0_3 l1 a2 = some r) :
 Calls Tryz.prog 68 #[.agg #[.int .i64 a0_0, .int .i64 a0_1, .slice A0_2 l0_2.length c0_2, .slice A0_3 l0_3.length c0_3], .slice A1 l1.length c1, .int .i64 a2] w fun e w' => e = .returned (.bool r) ∧ Below w.heap.size w w' := by
 have hu66 := Tryz.underlying25
 have HR1 := Aside0.mk hr1
 have HB := Aside0.mk (Below.refl w.heap.size w)
 clear hr0_2 hc0_2 hr0_3 hc0_3 hr1 hc1
 unfold impl_BlockCode_areWords.f at h
 by_cases c0 : 0 ≤ a0_0 ∧ a0_0 ≤ 60
 rotate_left
 ·rw [if_neg c0] at h; cases h
 rw [if_pos c0] at h
 have c0b0 := eq_true c0.1
 have c0b1 : decide (0 ≤ a0_0) = true := decide_eq_true c0.1
 have c064 : a0_0 ≤ 64 := by omega
 have c064t := eq_true c064
 clear c0
 obtain ⟨ji, hji⟩ : ∃ j_ : Int, (shl .i64 1 a0_0) = j_ := ⟨_, rfl⟩
 rw [hji] at h
 have hji_ : (IntKind.i64.wrap (1 * 2 ^ min a0_0.toNat 64)) = ji := hji
 have hjiz : (IntKind.i64.wrap (1 * 2 ^ a0_0.toNat)) = ji := shl_small hji c064
 have hjiu : (IntKind.i64.wrap (2 ^ min a0_0.toNat 64)) = ji := by have h_ := hji_; rw [Int.one_mul] at h_; exact h_
 have hjiv : (IntKind.i64.wrap (2 ^ a0_0.toNat)) = ji := by have h_ := hjiz; rw [Int.one_mul] at h_; exact h_
 have hjiy : (wrap64 (1 * 2 ^ min a0_0.toNat 64)) = ji := (i64_w _).symm.trans hji_
 have hjix : (wrap64 (1 * 2 ^ a0_0.toNat)) = ji := (i64_w _).symm.trans hjiz
 clear c064 hji
 by_cases c1 : (l1.length : Int) = ji
 rotate_left
 ·rw [if_neg c1] at h
  obtain rfl := Option.some.inj h
  have c1b0 : ((l1.length : Int) != ji) = true := bne_iff_ne.2 c1
  have c1b1 : ((l1.length : Int) == ji) = false := beq_eq_false_iff_ne.2 c1
  clear c1
  go_enter Tryz.func68, Tryz.ntmps68
  go_wp2_with (first | ((with_reducible refine gate_dst (N := 3) rfl ?_); (try (refine gate_guard (by rfl) ?_; dsimp only)); refine box_event ?hg (N := 3) ?hd (cs := #[.int .i64 a0_0, .int .i64 a0_1, .slice A0_2 l0_2.length c0_2, .slice A0_3 l0_3.length c0_3]) (t := 25) ?hr ?_; (case hd => rfl); (case hg => rfl); (case hr => exact Qh0_); intro gb hgb w3 hbox hb; have n0_ := Aside0.mk (below_step Qa0_ hb); have n1_ := Aside0.mk (hbox); clear HB; have HB := n0_; have BK := n1_; clear n0_ n1_; clear hb hbox hgb; have hcz0 : w3.cell? ⟨gb, 0, none⟩ = some (.int .i64 a0_0) := (blk_cell BK.out 0).trans rfl; have hcz1 : w3.cell? ⟨gb, 1, none⟩ = some (.int .i64 a0_1) := (blk_cell BK.out 1).trans rfl))
  go_ret
  exact ⟨rfl, Qa0_⟩
 rw [if_pos c1] at h
 have c1b0 : ((l1.length : Int) != ji) = false := by rw [c1, bne_self_eq_false]
 have c1b1 : ((l1.length : Int) == ji) = true := beq_iff_eq.2 c1
 clear c1
 have H' := Aside0.mk h
 clear h
 go_enter Tryz.func68, Tryz.ntmps68
 have hmm := @run_makeMap Tryz.prog
 go_wp2_with (first | ((with_reducible refine gate_dst (N := 3) rfl ?_); (try (refine gate_guard (by rfl) ?_; dsimp only)); refine box_event ?hg (N := 3) ?hd (cs := #[.int .i64 a0_0, .int .i64 a0_1, .slice A0_2 l0_2.length c0_2, .slice A0_3 l0_3.length c0_3]) (t := 25) ?hr ?_; (case hd => rfl); (case hg => rfl); (case hr => exact Qh0_); intro gb hgb w3 hbox hb; have n0_ := Aside0.mk (below_step Qa0_ hb); have n1_ := Aside0.mk (hbox); clear HB; have HB := n0_; have BK := n1_; clear n0_ n1_; clear hb hbox hgb; have hcz0 : w3.cell? ⟨gb, 0, none⟩ = some (.int .i64 a0_0) := (blk_cell BK.out 0).trans rfl; have hcz1 : w3.cell? ⟨gb, 1, none⟩ = some (.int .i64 a0_1) := (blk_cell BK.out 1).trans rfl))
 have HI := Aside0.mk (AwI.start HB.out BK.out)
 obtain ⟨m, hm⟩ : ∃ x : Nat, x = w3.heap.size := ⟨_, rfl⟩
 rw [← hm] at HI
 rw [show (Value.map (some w3.heap.size)) = .map (some m) from by rw [hm]]
 clear hm HB BK hcz0 hcz1
 go_loopg [20] k (fun kq v20 w' => ∃ (i : Int) (ks : List ByteArray), v20 = .int .i64 i ∧ Aside0 (impl_BlockCode_areWords.l0 kq a0_1 a2 l1 ks i = some r) ∧ Aside0 (kq ≤ k) ∧ Aside0 (AwI w w' m gb #[.int .i64 a0_0, .int .i64 a0_1, .slice A0_2 l0_2.length c0_2, .slice A0_3 l0_3.length c0_3] ks))
 case atStart => exact ⟨0, [], Qc0_, H', ⟨Nat.le_refl _⟩, HI⟩
 case round =>
  clear H' HI
  try clear c0b0 c0b1 c064t hji_ hjiz hjiu hjiv hjiy hjix c1b0 c1b1
  obtain ⟨i, ks, rfl, HA, HK1, HI⟩ := hrel
  cases gk with
  | zero => exact absurd HA.out (by simp [impl_BlockCode_areWords.l0])
  | succ k1 =>
   have H := HA.out
   clear HA
   simp only [impl_BlockCode_areWords.l0] at H
   by_cases c2 : i < (l1.length : Int)
   rotate_left
   ·rw [if_neg c2] at H
    obtain rfl := Option.some.inj H
    have c2b0 := decide_eq_false c2
    clear c2
    go_wp2
    go_ret
    exact ⟨Qc0_, HI.out.2.2.1⟩
   rw [if_pos c2] at H
   have c2b0 := decide_eq_true c2
   by_cases c3 : 0 ≤ i
   rotate_left
   ·rw [if_neg c3] at H
    exact absurd H (by simp)
   rw [if_pos c3] at H
   obtain ⟨d, A1, H⟩ := Option.bind_eq_some_iff.mp H
   have A1_ := Aside0.mk A1
   clear A1
   obtain ⟨ad1, e1, hx1⟩ := Kd.at_string (Kd.C_below HR1.out HI.out.2.2.1) i c3 c2
   cases e1
   have p1 := eq_true c3
   have q1 := eq_true c2
   clear c2 c3
   obtain ⟨x, hx⟩ : ∃ x : ByteArray, x = rdOf ByteArray.empty l1 i := ⟨_, rfl⟩
   rw [← hx] at H A1_ hx1
   clear hx
   have hcz1 : wr.cell? ⟨gb, 1, none⟩ = some (.int .i64 a0_1) := (blk_cell HI.out.2.1 1).trans rfl
   by_cases c4 : (x.size : Int) = a0_1
   rotate_left
   ·rw [if_neg c4] at H
    obtain rfl := Option.some.inj H
    have c4b0 : ((x.size : Int) != a0_1) = true := bne_iff_ne.2 c4
    have c4b1 : ((x.size : Int) == a0_1) = false := beq_eq_false_iff_ne.2 c4
    clear c4
    go_wp2_with (first | (go_at_call 65; (with_reducible refine (impl_disparity.calls x d _ A1_.out).mono ?_); rintro e w' ⟨rfl, ⟨nd, rfl⟩⟩))
    go_ret
    exact ⟨Qc0_, pw_below_drewN HI.out.2.2.1 _⟩
   rw [if_pos c4] at H
   have c4b0 : ((x.size : Int) != a0_1) = false := by rw [c4, bne_self_eq_false]
   have c4b1 : ((x.size : Int) == a0_1) = true := beq_iff_eq.2 c4
   by_cases c5 : a0_1 ≤ 1000 ∧ ks.length < 1000
   rotate_left
   ·rw [if_neg c5] at H
    exact absurd H (by simp)
   rw [if_pos c5] at H
   have HK := Aside0.mk (show x.size ≤ maxLen ∧ ks.length < 1000000 by unfold maxLen; omega)
   clear c4 c5
   obtain ⟨t, A2, H⟩ := Option.bind_eq_some_iff.mp H
   have A2_ := Aside0.mk A2
   clear A2
   cases t with
   | false =>
    try dsimp only at H
    obtain rfl := Option.some.inj H
    go_wp2_with (first | (go_at_call 65; (with_reducible refine (impl_disparity.calls x d _ A1_.out).mono ?_); rintro e w' ⟨rfl, ⟨nd, rfl⟩⟩) | (go_at_call 79; (with_reducible refine (impl_areBits.calls x false _ A2_.out).mono ?_); rintro e w4 ⟨rfl, hb4⟩; have HI2 := Aside0.mk (AwI.below HI.out (aw_drew hb4)); clear hb4; have hlk := set_get HI2.out.1 x HK.out.1; (try rw [HIN.out] at hlk); (try (obtain ⟨w5, hup, hS, hg⟩ := set_put HI2.out.1 HK.out.2 x HK.out.1; have HI3 := Aside0.mk (AwI.put HI2.out hS hg); clear hS hg))))
    go_ret
    exact ⟨Qc0_, HI2.out.2.2.1⟩
   | true =>
    rw [if_pos rfl] at H
    by_cases c6 : d ≠ 0 ∧ d ≠ a2
    ·rw [if_pos c6] at H
     obtain rfl := Option.some.inj H
     have c6b0 : (d != 0) = true := bne_iff_ne.2 c6.1
     have c6b1 : (d != a2) = true := bne_iff_ne.2 c6.2
     clear c6
     go_wp2_with (first | (go_at_call 65; (with_reducible refine (impl_disparity.calls x d _ A1_.out).mono ?_); rintro e w' ⟨rfl, ⟨nd, rfl⟩⟩) | (go_at_call 79; (with_reducible refine (impl_areBits.calls x true _ A2_.out).mono ?_); rintro e w4 ⟨rfl, hb4⟩; have HI2 := Aside0.mk (AwI.below HI.out (aw_drew hb4)); clear hb4; have hlk := set_get HI2.out.1 x HK.out.1; (try rw [HIN.out] at hlk); (try (obtain ⟨w5, hup, hS, hg⟩ := set_put HI2.out.1 HK.out.2 x HK.out.1; have HI3 := Aside0.mk (AwI.put HI2.out hS hg); clear hS hg))))
     go_ret
     exact ⟨Qc0_, HI2.out.2.2.1⟩
    rw [if_neg c6] at H
    have c6s : ((d != 0) = false ∧ (d == 0) = true) ∨ ((d != 0) = true ∧ (d == 0) = false ∧ (d != a2) = false ∧ (d == a2) = true) := by
     by_cases e : d = 0
     ·exact .inl ⟨by rw [e]; rfl, by rw [e]; rfl⟩
     ·have e2 : d = a2 := Classical.byContradiction fun e2 => c6 ⟨e, e2⟩
      exact .inr ⟨bne_iff_ne.2 e, beq_eq_false_iff_ne.2 e, by rw [e2, bne_self_eq_false], beq_iff_eq.2 e2⟩
    clear c6
    rcases hin : hasT ks x with _ | _
    ·rw [hin, if_neg (by decide)] at H
     have H' := Aside0.mk H
     clear H
     have HIN := Aside0.mk hin
     clear hin
     rcases c6s with ⟨s1, s2⟩ | ⟨s1, s2, s3, s4⟩ <;> (
      go_wp2_with (first | (go_at_call 65; (with_reducible refine (impl_disparity.calls x d _ A1_.out).mono ?_); rintro e w' ⟨rfl, ⟨nd, rfl⟩⟩) | (go_at_call 79; (with_reducible refine (impl_areBits.calls x true _ A2_.out).mono ?_); rintro e w4 ⟨rfl, hb4⟩; have HI2 := Aside0.mk (AwI.below HI.out (aw_drew hb4)); clear hb4; have hlk := set_get HI2.out.1 x HK.out.1; (try rw [HIN.out] at hlk); (try (obtain ⟨w5, hup, hS, hg⟩ := set_put HI2.out.1 HK.out.2 x HK.out.1; have HI3 := Aside0.mk (AwI.put HI2.out hS hg); clear hS hg))))
      go_roundg k1
      case measure => have := HK1.out; omega
      case rel => exact ⟨(wrap64 (i + 1)), (ks ++ [x]), Qc0_, H', ⟨Qp0_⟩, HI3⟩)
    ·rw [hin, if_pos rfl] at H
     obtain rfl := Option.some.inj H
     have HIN := Aside0.mk hin
     clear hin
     rcases c6s with ⟨s1, s2⟩ | ⟨s1, s2, s3, s4⟩ <;> (
      go_wp2_with (first | (go_at_call 65; (with_reducible refine (impl_disparity.calls x d _ A1_.out).mono ?_); rintro e w' ⟨rfl, ⟨nd, rfl⟩⟩) | (go_at_call 79; (with_reducible refine (impl_areBits.calls x true _ A2_.out).mono ?_); rintro e w4 ⟨rfl, hb4⟩; have HI2 := Aside0.mk (AwI.below HI.out (aw_drew hb4)); clear hb4; have hlk := set_get HI2.out.1 x HK.out.1; (try rw [HIN.out] at hlk); (try (obtain ⟨w5, hup, hS, hg⟩ := set_put HI2.out.1 HK.out.2 x HK.out.1; have HI3 := Aside0.mk (AwI.put HI2.out hS hg); clear hS hg))))
      go_ret
      exact ⟨Qc0_, HI2.out.2.2.1⟩)
def slices_Index_string_string.l0 : Nat → List ByteArray → ByteArray → Int → Int → Option (Int)
 | 0, _, _, _, _ => none
 | k + 1, x0, x1, x7, x8 => if x8 < x7 then (if 0 ≤ x8 then (if x8 < (x0.length : Int) then (if x1.toList = (rdOf ByteArray.empty x0 x8).toList then (some x8) else (slices_Index_string_string.l0 k x0 x1 x7 (wrap64 (x8 + 1)))) else (none)) else (none)) else (some (-1))
def slices_Index_string_string.f (k : Nat) (l0 : List ByteArray) (a1 : ByteArray) : Option (Int) := slices_Index_string_string.l0 k l0 a1 (l0.length : Int) 0
theorem slices_Index_string_string.mono_l : ∀ k, (∀ y0 y1 y2 y3, LeO (slices_Index_string_string.l0 k y0 y1 y2 y3) (slices_Index_string_string.l0 (k + 1) y0 y1 y2 y3))
 | 0 => fun _ _ _ _ r h => by simp [slices_Index_string_string.l0] at h
 | k + 1 => by
  have ih0 := slices_Index_string_string.mono_l k
  ·intro y0 y1 y2 y3
   unfold slices_Index_string_string.l0
   repeat' first
   | (with_reducible exact ih0 _ _ _ _)
   | (with_reducible exact LeO.refl _)
   | (with_reducible exact LeO.none _)
   | (with_reducible refine LeO.ite ?_ ?_)
   | (with_reducible refine LeO.bind ?_ (fun _ => ?_))
   | exact ih0 _ _ _ _
   | exact LeO.none _
   | refine LeO.ite ?_ ?_
   | refine LeO.bind ?_ (fun _ => ?_)
theorem slices_Index_string_string.mono : ∀ a0 a1 k, LeO (slices_Index_string_string.f k a0 a1) (slices_Index_string_string.f (k + 1) a0 a1) := by
 intro a0 a1 k
 have ih0 := slices_Index_string_string.mono_l k
 unfold slices_Index_string_string.f
 repeat' first
  | (with_reducible exact ih0 _ _ _ _)
  | (with_reducible exact LeO.refl _)
  | (with_reducible exact LeO.none _)
  | (with_reducible refine LeO.ite ?_ ?_)
  | (with_reducible refine LeO.bind ?_ (fun _ => ?_))
  | exact ih0 _ _ _ _
  | exact LeO.none _
  | refine LeO.ite ?_ ?_
  | refine LeO.bind ?_ (fun _ => ?_)
set_option maxHeartbeats 8000000 in
set_option maxRecDepth 100000 in
theorem slices_Index_string_string.calls (k : Nat) (A0 : Option Addr) (c0 : Nat) (l0 : List ByteArray) (a1 : ByteArray) (r : Int) (w : World) (hr0 : Kd.C Kd.string w A0 l0.length l0) (hc0 : l0.length ≤ c0) (h : slices_Index_string_string.f k l0 a1 = some r) :
 Calls Tryz.prog 69 #[.slice A0 l0.length c0, .string a1] w fun e w' => e = .returned (.int .i64 r) ∧ Drawn0 w w' := by
 have HR0 := Aside0.mk hr0
 have HC0 := Aside0.mk hc0
 clear hr0 hc0
 have H : (slices_Index_string_string.l0 k l0 a1 (l0.length : Int) 0) = some r := h
 clear h
 have H' := Aside0.mk H
 clear H
 go_enter Tryz.func69, Tryz.ntmps69
 go_wp2
 go_loopg [8] k (fun kq v8 w' => ∃ (x8_1 : Int), v8 = .int .i64 x8_1 ∧ Aside0 (slices_Index_string_string.l0 kq l0 a1 (l0.length : Int) x8_1 = some r) ∧ Aside0 (kq ≤ k) ∧ Drawn0 w w')
 case atStart => exact ⟨(0), Qc0_, H', ⟨Nat.le_refl _⟩, Qd0_⟩
 case round =>
  clear H'
  try clear p2
  obtain ⟨x8_1, rfl, HA, HK1, ⟨m1, rfl⟩⟩ := hrel
  cases gk with
  | zero => exact absurd HA.out (by simp [slices_Index_string_string.l0])
  | succ k1 =>
   have H := HA.out
   clear HA
   simp only [slices_Index_string_string.l0] at H
   by_cases c3 : x8_1 < (l0.length : Int)
   ·rw [if_pos c3] at H
    have c3b0 := decide_eq_true c3
    clear c3
    by_cases c4 : 0 ≤ x8_1
    ·rw [if_pos c4] at H
     have c4b0 := decide_eq_true c4
     clear c4
     by_cases c5 : x8_1 < (l0.length : Int)
     ·rw [if_pos c5] at H
      have c5b0 := decide_eq_true c5
      clear c5
      by_cases c6 : a1.toList = (rdOf ByteArray.empty l0 x8_1).toList
      ·rw [if_pos c6] at H
       have c6b0 := beq_iff_eq.mpr c6
       have c6b1 := bne_eq_false_iff_eq.mpr c6
       clear c6
       obtain rfl := Option.some.inj H
       have p167 : 0 ≤ (x8_1 : Int) := of_decide_eq_true Qf0_
       have q167 : x8_1 < (l0.length : Int) := of_decide_eq_true Qf0_
       obtain ⟨ad167, e167, hx167_0⟩ := Kd.at_string HR0.out x8_1 p167 q167
       cases e167
       replace p167 := eq_true p167
       replace q167 := eq_true q167
       go_wp2
       go_ret
       exact ⟨Qc0_, Qd0_⟩
      ·rw [if_neg c6] at H
       have c6b0 := beq_eq_false_iff_ne.mpr c6
       have c6b1 := bne_iff_ne.mpr c6
       have H' := Aside0.mk H
       clear H
       have p167 : 0 ≤ (x8_1 : Int) := of_decide_eq_true Qf0_
       have q167 : x8_1 < (l0.length : Int) := of_decide_eq_true Qf0_
       obtain ⟨ad167, e167, hx167_0⟩ := Kd.at_string HR0.out x8_1 p167 q167
       cases e167
       replace p167 := eq_true p167
       replace q167 := eq_true q167
       go_wp2
       go_roundg k1
       case measure => have := HK1.out; omega
       case rel => exact ⟨(wrap64 (x8_1 + 1)), Qc0_, H', ⟨Qp0_⟩, Qd0_⟩
     ·rw [if_neg c5] at H
      exact absurd H (by simp)
    ·rw [if_neg c4] at H
     exact absurd H (by simp)
   ·rw [if_neg c3] at H
    have c3b0 := decide_eq_false c3
    clear c3
    obtain rfl := Option.some.inj H
    go_wp2
    go_ret
    exact ⟨Qc0_, Qd0_⟩
end Go.Proofs.YtbjmbfjbjkhhdaaGreatDoor.QFnTopOfAll
