/- Made small by wip/pack.py: lemmas and contracts that the law's row leans on. -/
import Derived.Test.YtdnjebnmianogaaGreatDoorZFnTop27
import Derived.Test.YtdnjebnmianogaaGreatDoorZFnTop30
import Derived.Test.YtdnjebnmianogaaGreatDoorZFnTop31
import Derived.Test.YtdnjebnmianogaaGreatDoorZFnTop32
import Derived.Test.YtdnjebnmianogaaGreatDoorZFnTop34
import Derived.Test.YtdnjebnmianogaaGreatDoorZFnTop35
namespace Go.Proofs.YtdnjebnmianogaaGreatDoor.QFnTop
open Go.RowKit Go.Proofs.YtdnjebnmianogaaGreatDoorW.PrintWords Go.Proofs.YtdnjebnmianogaaGreatDoorW.PrintLast Go.Proofs.YtdnjebnmianogaaGreatDoorW.PrintMore
attribute [local go_sem] max2_int min2_int max_two min_two max_three min_three max_four min_four
set_option linter.unusedVariables false
set_option linter.unusedSimpArgs false
def impl_ReadList.l0 : Nat → List Int → List ByteArray → Int → Int → Option (List Int × Bool)
 | 0, _, _, _, _ => none
 | k + 1, x4, x14, x15, x16 => if x16 < x15 then (if 0 ≤ x16 then (if x16 < (x14.length : Int) then ((impl_ReadDecimal.f (rdOf ByteArray.empty x14 x16)).bind fun bt276 => (if bt276.2 = true then (if (x4.length : Int) = 64 then (some (([] : List Int), false)) else (if x4.length < 17592186044416 then (impl_ReadList.l0 k (x4 ++ [bt276.1]) x14 x15 (wrap64 (x16 + 1))) else (none))) else (some (([] : List Int), false)))) else (none)) else (none)) else (some (x4, true))
def impl_ReadList.f (k : Nat) (a0 : ByteArray) : Option (List Int × Bool) := (some (([] : List Int) : List Int)).bind fun y269 => (if a0.toList = ([110, 111, 110, 101] : List UInt8) then (some (y269, true)) else ((strings_Split.f a0 (⟨#[44]⟩ : ByteArray)).bind fun t272 => (impl_ReadList.l0 k y269 t272 (t272.length : Int) 0)))
set_option maxHeartbeats 8000000 in
set_option maxRecDepth 100000 in
theorem impl_ReadList.calls (k : Nat) (a0 : ByteArray) (r1 : List Int) (r2 : Bool) (w : World) (hT : LibW w) (h : impl_ReadList.f k a0 = some (r1, r2)) :
 Calls Tryz.prog 91 #[.string a0] w fun e w' => ∃ v0_ : Value, e = .returned (.tuple #[v0_, .bool r2]) ∧ Kd.R (Kd.int .i64) 2 w' w.heap.size (fun _ => True) v0_ r1 ∧ Below w.heap.size w w' := by
 have HT := Aside0.mk hT
 clear hT
 have HB := Aside0.mk (Below.refl w.heap.size w)
 have H : ((some (([] : List Int) : List Int)).bind fun y269 => (if a0.toList = ([110, 111, 110, 101] : List UInt8) then (some (y269, true)) else ((strings_Split.f a0 (⟨#[44]⟩ : ByteArray)).bind fun t272 => (impl_ReadList.l0 k y269 t272 (t272.length : Int) 0)))) = some (r1, r2) := h
 clear h
 obtain ⟨y269, hy269⟩ : ∃ y_ : List Int, y_ = (([] : List Int)) := ⟨_, rfl⟩
 replace H : (if a0.toList = ([110, 111, 110, 101] : List UInt8) then (some (y269, true)) else ((strings_Split.f a0 (⟨#[44]⟩ : ByteArray)).bind fun t272 => (impl_ReadList.l0 k y269 t272 (t272.length : Int) 0))) = some (r1, r2) := by first | (rw [hy269]; with_reducible exact H) | (have H2_ := (Option.bind_some _ _).symm.trans H; rw [hy269]; with_reducible exact H2_) | (have H2_ := (Option.bind_some _ _).symm.trans H; with_reducible exact H2_) | with_reducible exact H | (rw [hy269]; exact H) | exact H
 have Ny269 := Aside0.mk hy269
 clear hy269
 by_cases c2 : a0.toList = ([110, 111, 110, 101] : List UInt8)
 ·rw [if_pos c2] at H
  have c2b0 := beq_iff_eq.mpr c2
  have c2b1 := bne_eq_false_iff_eq.mpr c2
  clear c2
  simp only [Option.some.injEq, Prod.mk.injEq] at H
  obtain ⟨rfl, rfl⟩ := H
  go_enter Tryz.func91, Tryz.ntmps91
  go_wp2_with (first | ((with_reducible refine gate_dst (N := 9) rfl ?_); (try (refine gate_guard (by rfl) ?_; dsimp only)); refine Kd.R_lit (Kd.int .i64) _ 2 ?hg (N := 9) ?hd (xs := ([] : List Int)) (inner := []) (ok := fun _ => True) (okp := fun _ => True) ?hr ?hp (fun _ hk => hk) trivial (Below.refl _ _) (Nat.le_refl _) (by simp) ?_; (case hd => rfl); (case hg => rfl); (case hr => exact Qg0_); (case hp => exact (Reps.none _ _)); intro v270 w3 ho4 hb hg_ hnew_; clear hg_ hnew_; (first | rw [← Ny269.out] at ho4 | (simp only [Int.reduceToNat] at ho4; rw [← Ny269.out] at ho4)); have n0_ := Aside0.mk (Kd.R_lower ho4 (below_size Qa0_)); have n1_ := Aside0.mk (below_step Qa0_ hb); clear HB; have HO271 := n0_; have HB := n1_; clear n0_ n1_; clear hb ho4))
  go_ret2
  exact ⟨_, Qd0_, Qr_ HO271.out, Qa0_⟩
 ·rw [if_neg c2] at H
  have c2b0 := beq_eq_false_iff_ne.mpr c2
  have c2b1 := bne_iff_ne.mpr c2
  replace H := Option.bind_eq_some_iff.mp H
  obtain ⟨t272, A50, H⟩ := H
  try dsimp only at H
  have A5 := Aside0.mk A50
  clear A50
  have H' := Aside0.mk H
  clear H
  go_enter Tryz.func91, Tryz.ntmps91
  go_wp2_with (first | ((with_reducible refine gate_dst (N := 9) rfl ?_); (try (refine gate_guard (by rfl) ?_; dsimp only)); refine Kd.R_lit (Kd.int .i64) _ 2 ?hg (N := 9) ?hd (xs := ([] : List Int)) (inner := []) (ok := fun _ => True) (okp := fun _ => True) ?hr ?hp (fun _ hk => hk) trivial (Below.refl _ _) (Nat.le_refl _) (by simp) ?_; (case hd => rfl); (case hg => rfl); (case hr => exact Qg0_); (case hp => exact (Reps.none _ _)); intro v270 w6 ho7 hb hg_ hnew_; clear hg_ hnew_; (first | rw [← Ny269.out] at ho7 | (simp only [Int.reduceToNat] at ho7; rw [← Ny269.out] at ho7)); have n0_ := Aside0.mk (Kd.R_lower ho7 (below_size Qa0_)); have n1_ := Aside0.mk (below_step Qa0_ hb); clear HB; have HO271 := n0_; have HB := n1_; clear n0_ n1_; clear hb ho7) | ((with_reducible refine gate_callee (f := 46) rfl ?_); refine goesL_ (some 14) rfl rfl Tryz.func46 Qh0_ rfl #[.string a0, .string (⟨#[44]⟩ : ByteArray)] rfl Qb0_ ?_; (with_reducible refine (strings_Split.calls a0 (⟨#[44]⟩ : ByteArray) t272 _ A5.out).mono ?_); rintro e w8 ⟨v273, rfl, ho0, hb⟩; refine ⟨_, rfl, ?_⟩; have n0_ := Aside0.mk (Kd.R_below (Qr_ HO271.out) hb); have n1_ := Aside0.mk (Kd.R_lower ho0 (below_size Qa0_)); have n2_ := Aside0.mk (below_step Qa0_ hb); clear HO271; clear HB; have HO271 := n0_; have HO274 := n1_; have HB := n2_; clear n0_ n1_ n2_; (try clear hb); (try clear hb2); (try clear hk); (try clear hi); (try clear ho0); obtain ⟨Ao9, co9, eo9⟩ := Kd.R_slice HO274.out; subst eo9))
  go_loopg [4, 16] k (fun kq v4 v16 w' => ∃ (x4_1 : List Int) (x16_1 : Int), v16 = .int .i64 x16_1 ∧ Aside0 (impl_ReadList.l0 kq x4_1 t272 (t272.length : Int) x16_1 = some (r1, r2)) ∧ Aside0 (kq ≤ k) ∧ Aside0 (Kd.R (Kd.int .i64) 2 w' w.heap.size (fun _ => True) v4 x4_1) ∧ Aside0 (Kd.R Kd.string 9 w' w.heap.size (fun _ => True) (.slice Ao9 t272.length co9) t272) ∧ Aside0 (Below w.heap.size w w'))
  case atStart => exact ⟨(y269), (0), Qc0_, H', ⟨Nat.le_refl _⟩, ⟨Qr_ HO271.out⟩, ⟨Qr_ HO274.out⟩, ⟨Qa0_⟩⟩
  case round =>
   clear H'
   try clear c2
   try clear c2b0
   try clear c2b1
   try clear p2
   try clear c4
   try clear c9
   obtain ⟨x4_1, x16_1, rfl, HA, HK1, HO_4, HO_14, HB⟩ := hrel
   cases gk with
   | zero => exact absurd HA.out (by simp [impl_ReadList.l0])
   | succ k1 =>
    have H := HA.out
    clear HA
    simp only [impl_ReadList.l0] at H
    by_cases c10 : x16_1 < (t272.length : Int)
    ·rw [if_pos c10] at H
     have c10b0 := decide_eq_true c10
     clear c10
     by_cases c11 : 0 ≤ x16_1
     ·rw [if_pos c11] at H
      have c11b0 := decide_eq_true c11
      clear c11
      by_cases c12 : x16_1 < (t272.length : Int)
      ·rw [if_pos c12] at H
       have c12b0 := decide_eq_true c12
       clear c12
       replace H := Option.bind_eq_some_iff.mp H
       obtain ⟨⟨t276, t277⟩, A130, H⟩ := H
       try dsimp only at H
       have A13 := Aside0.mk A130
       clear A130
       by_cases c14 : t277 = true
       ·subst c14
        rw [if_pos rfl] at H
        have H1 := H
        clear H
        have H := H1
        clear H1
        by_cases c15 : (x4_1.length : Int) = 64
        ·rw [if_pos c15] at H
         have c15b0 := beq_iff_eq.mpr c15
         have c15b1 := bne_eq_false_iff_eq.mpr c15
         clear c15
         simp only [Option.some.injEq, Prod.mk.injEq] at H
         obtain ⟨rfl, rfl⟩ := H
         have p275 : 0 ≤ (x16_1 : Int) := of_decide_eq_true Qe0_
         have q275 : x16_1 < (t272.length : Int) := of_decide_eq_true Qe0_
         obtain ⟨ad275, e275, hx275_0⟩ := Kd.at_string (Kd.R_reads' HO_14.out).2.2 x16_1 p275 q275
         cases e275
         replace p275 := eq_true p275
         replace q275 := eq_true q275
         go_wp2_with (first | ((with_reducible refine gate_callee (f := 90) rfl ?_); refine goesL_ (some 22) rfl rfl Tryz.func90 Qh0_ rfl #[.string (rdOf ByteArray.empty t272 x16_1)] rfl Qb0_ ?_; (with_reducible refine (impl_ReadDecimal.calls (rdOf ByteArray.empty t272 x16_1) t276 true _ ?tb A13.out).mono ?_); (case tb => exact Qw0_); rintro e w16 ⟨rfl, hb⟩; refine ⟨_, rfl, ?_⟩; have n0_ := Aside0.mk (Kd.R_below (Qr_ HO_4.out) hb); have n1_ := Aside0.mk (Kd.R_below (Qr_ HO_14.out) hb); have n2_ := Aside0.mk (below_step Qa0_ hb); clear HO_4; clear HO_14; clear HB; have HO_4 := n0_; have HO_14 := n1_; have HB := n2_; clear n0_ n1_ n2_; (try clear hb); (try clear hb2); (try clear hk); (try clear hi); obtain ⟨Ao17, co17, eo17⟩ := Kd.R_slice HO_4.out; subst eo17))
         go_ret2
         exact ⟨_, Qd0_, Qa1_, Qa0_⟩
        ·rw [if_neg c15] at H
         have c15b0 := beq_eq_false_iff_ne.mpr c15
         have c15b1 := bne_iff_ne.mpr c15
         by_cases c18 : x4_1.length < 17592186044416
         ·rw [if_pos c18] at H
          have LMc18 := Aside0.mk c18
          clear c18
          obtain ⟨y278, hy278⟩ : ∃ y_ : List Int, y_ = (x4_1 ++ [t276]) := ⟨_, rfl⟩
          replace H : (impl_ReadList.l0 k1 y278 t272 (t272.length : Int) (wrap64 (x16_1 + 1))) = some (r1, r2) := by first | (rw [hy278]; with_reducible exact H) | (have H2_ := (Option.bind_some _ _).symm.trans H; rw [hy278]; with_reducible exact H2_) | (have H2_ := (Option.bind_some _ _).symm.trans H; with_reducible exact H2_) | with_reducible exact H | (rw [hy278]; exact H) | exact H
          have Ny278 := Aside0.mk hy278
          clear hy278
          have H' := Aside0.mk H
          clear H
          have p275 : 0 ≤ (x16_1 : Int) := of_decide_eq_true Qe0_
          have q275 : x16_1 < (t272.length : Int) := of_decide_eq_true Qe0_
          obtain ⟨ad275, e275, hx275_0⟩ := Kd.at_string (Kd.R_reads' HO_14.out).2.2 x16_1 p275 q275
          cases e275
          replace p275 := eq_true p275
          replace q275 := eq_true q275
          go_wp2_with (first | ((with_reducible refine gate_callee (f := 90) rfl ?_); refine goesL_ (some 22) rfl rfl Tryz.func90 Qh0_ rfl #[.string (rdOf ByteArray.empty t272 x16_1)] rfl Qb0_ ?_; (with_reducible refine (impl_ReadDecimal.calls (rdOf ByteArray.empty t272 x16_1) t276 true _ ?tb A13.out).mono ?_); (case tb => exact Qw0_); rintro e w19 ⟨rfl, hb⟩; refine ⟨_, rfl, ?_⟩; have n0_ := Aside0.mk (Kd.R_below (Qr_ HO_4.out) hb); have n1_ := Aside0.mk (Kd.R_below (Qr_ HO_14.out) hb); have n2_ := Aside0.mk (below_step Qa0_ hb); clear HO_4; clear HO_14; clear HB; have HO_4 := n0_; have HO_14 := n1_; have HB := n2_; clear n0_ n1_ n2_; (try clear hb); (try clear hb2); (try clear hk); (try clear hi); obtain ⟨Ao20, co20, eo20⟩ := Kd.R_slice HO_4.out; subst eo20) | ((with_reducible refine gate_builtin (b := .append) (xs := #[.tmp 32, .tmp 34]) rfl ?_); (try (refine gate_guard (by rfl) ?_; dsimp only)); at_builtin; refine Kd.R_append (Kd.int .i64) (w0 := w) w.heap.size rfl (.tmp 32) (.tmp 34) 29 2 (.int .i64 0) 8 rfl Tryz.underlying29 info2 rfl (by decide) (by omega) (.slice Ao20 x4_1.length co20) x4_1 t276 [.int .i64 t276] (fun _ => True) (fun _ => False) rfl rfl ?aP (fun _ hk => hk.elim) ?aF ?aO ?aB ?aS ?aL ?_; (case aP => exact rfl); (case aB => exact Qa0_); (case aF => exact (fun _ _ => trivial)); (case aO => exact (Qr_ HO_4.out)); (case aS => exact (below_size Qa0_)); (case aL => have := LMc18.out; omega); intro v279 w21 ho hb hg hat; rw [← Ny278.out] at ho; have n0_ := Aside0.mk (Kd.R_over' (Qr_ HO_14.out) (Kd.R_typed (Qr_ HO_4.out)) (by decide) hg); have n1_ := Aside0.mk (hb); have n2_ := Aside0.mk (ho); clear HO_14; clear HB; clear HO_4; have HO_14 := n0_; have HB := n1_; have HO280 := n2_; clear n0_ n1_ n2_; clear ho hb hg hat))
          go_roundg k1
          case measure => have := HK1.out; omega
          case rel => exact ⟨(y278), (wrap64 (x16_1 + 1)), Qc0_, H', ⟨Qs0_⟩, ⟨Qr_ HO280.out⟩, ⟨Qr_ HO_14.out⟩, ⟨Qa0_⟩⟩
         ·rw [if_neg c18] at H
          exact absurd H (by simp)
       ·replace c14 := Bool.eq_false_iff.mpr c14
        subst c14
        rw [if_neg (show ¬ (false = true) by decide)] at H
        have H1 := H
        clear H
        have H := H1
        clear H1
        simp only [Option.some.injEq, Prod.mk.injEq] at H
        obtain ⟨rfl, rfl⟩ := H
        have p275 : 0 ≤ (x16_1 : Int) := of_decide_eq_true Qe0_
        have q275 : x16_1 < (t272.length : Int) := of_decide_eq_true Qe0_
        obtain ⟨ad275, e275, hx275_0⟩ := Kd.at_string (Kd.R_reads' HO_14.out).2.2 x16_1 p275 q275
        cases e275
        replace p275 := eq_true p275
        replace q275 := eq_true q275
        go_wp2_with (first | ((with_reducible refine gate_callee (f := 90) rfl ?_); refine goesL_ (some 22) rfl rfl Tryz.func90 Qh0_ rfl #[.string (rdOf ByteArray.empty t272 x16_1)] rfl Qb0_ ?_; (with_reducible refine (impl_ReadDecimal.calls (rdOf ByteArray.empty t272 x16_1) t276 false _ ?tb A13.out).mono ?_); (case tb => exact Qw0_); rintro e w22 ⟨rfl, hb⟩; refine ⟨_, rfl, ?_⟩; have n0_ := Aside0.mk (Kd.R_below (Qr_ HO_4.out) hb); have n1_ := Aside0.mk (Kd.R_below (Qr_ HO_14.out) hb); have n2_ := Aside0.mk (below_step Qa0_ hb); clear HO_4; clear HO_14; clear HB; have HO_4 := n0_; have HO_14 := n1_; have HB := n2_; clear n0_ n1_ n2_; (try clear hb); (try clear hb2); (try clear hk); (try clear hi)))
        go_ret2
        exact ⟨_, Qd0_, Qa1_, Qa0_⟩
      ·rw [if_neg c12] at H
       exact absurd H (by simp)
     ·rw [if_neg c11] at H
      exact absurd H (by simp)
    ·rw [if_neg c10] at H
     have c10b0 := decide_eq_false c10
     clear c10
     simp only [Option.some.injEq, Prod.mk.injEq] at H
     obtain ⟨rfl, rfl⟩ := H
     go_wp2
     go_ret2
     exact ⟨_, Qd0_, Qr_ HO_4.out, Qa0_⟩
theorem ra_row {w w1 : World} {base : Nat} {v : Value} {xs : List Int} (h : Kd.R (Kd.int .i64) 2 w base (fun _ => True) v xs) (hm : ∀ k, v.ownBlock = some k → w1.heap[k]? = w.heap[k]?) : Kd.R (Kd.int .i64) 2 w1 base (fun _ => True) v xs :=
 Kd.R_of_own (own_move (Kd.own_of_R h) hm) (fun _ _ => trivial)
theorem ra_lt {w : World} {base : Nat} {v : Value} {xs : List Int} (h : Kd.R (Kd.int .i64) 2 w base (fun _ => True) v xs) : ∀ k, v.ownBlock = some k → k < w.heap.size := fun k hk => own_lt (Kd.own_of_R h) k hk
theorem ra_base {w : World} {base : Nat} {v : Value} {xs : List Int} (h : Kd.R (Kd.int .i64) 2 w base (fun _ => True) v xs) : ∀ k, v.ownBlock = some k → base ≤ k := fun k hk => own_base (Kd.own_of_R h) k hk
theorem ra_ne {w : World} {base b t : Nat} {v : Value} {xs : List Int} {cells : Array Value} (h : Kd.R (Kd.int .i64) 2 w base (fun _ => True) v xs) (hb : w.heap[b]? = some (.cells cells t (0, 0))) (ht : 2 ≠ t) : v.ownBlock ≠ some b := fun e => Kd.R_ne h hb ht e.symm
theorem ra_blt {w : World} {g : Nat} {o : Obj} (h : w.heap[g]? = some o) : g < w.heap.size := by
 rcases Nat.lt_or_ge g w.heap.size with h6 | h6
 ·exact h6
 ·rw [Array.getElem?_eq_none h6] at h
  cases h
theorem ra_nil (w : World) (base : Nat) : Kd.R (Kd.int .i64) 2 w base (fun _ => True) (.slice none 0 0) ([] : List Int) := Kd.R_of_own ⟨rfl, .inl ⟨rfl, rfl⟩⟩ (fun _ _ => trivial)
def raAt (w : World) (base g : Nat) (fr : ByteArray) (p : Int) (bi : ByteArray) (vn vl : Value) (n li : List Int) : Prop :=
 base ≤ g ∧ w.heap[g]? = some (.cells #[.string fr, .int .i64 p, .string bi, vn, vl] 101 (0, 0)) ∧ Kd.R (Kd.int .i64) 2 w base (fun _ => True) vn n ∧ Kd.R (Kd.int .i64) 2 w base (fun _ => True) vl li ∧ ∀ k, vn.ownBlock = some k → vl.ownBlock ≠ some k
def RaI (w w' : World) (e g : Nat) (fr : ByteArray) (p : Int) (bi : ByteArray) (vn vl : Value) (n li : List Int) : Prop :=
 Below w.heap.size w w' ∧ raAt w' w.heap.size g fr p bi vn vl n li ∧ w.heap.size ≤ e ∧ w'.heap[e]? = some (.cells #[.string (⟨#[]⟩ : ByteArray), .int .i64 0, .string (⟨#[]⟩ : ByteArray), .slice none 0 0, .slice none 0 0] 101 (0, 0)) ∧ e ≠ g
theorem ra_below {w w1 w2 : World} {e g : Nat} {fr bi : ByteArray} {p : Int} {vn vl : Value} {n li : List Int} (h : RaI w w1 e g fr p bi vn vl n li) (hb : Below w1.heap.size w1 w2) : RaI w w2 e g fr p bi vn vl n li := by
 obtain ⟨h1, ⟨h2, h3, h4, h5, h6⟩, h7, h8, h9⟩ := h
 exact ⟨below_step h1 hb, ⟨h2, (hb.block g (ra_blt h3)).trans h3, ra_row h4 (fun k hk => hb.block k (ra_lt h4 k hk)), ra_row h5 (fun k hk => hb.block k (ra_lt h5 k hk)), h6⟩, h7, (hb.block e (ra_blt h8)).trans h8, h9⟩
theorem ra_draw {w w1 : World} {e g : Nat} {fr bi : ByteArray} {p : Int} {vn vl : Value} {n li : List Int} (h : RaI w w1 e g fr p bi vn vl n li) (m : Nat) : RaI w (w1.drewN m) e g fr p bi vn vl n li := ra_below h (pw_below_drewN (Below.refl _ _) m)
theorem ra_s0 {w w1 w2 : World} {e g : Nat} {fr bi : ByteArray} {p : Int} {vn vl : Value} {n li : List Int} (h : RaI w w1 e g fr p bi vn vl n li) (x : ByteArray) (hw : w2 = w1.setCell ⟨g, 0, none⟩ (.string x)) : RaI w w2 e g x p bi vn vl n li := by
 obtain ⟨h1, ⟨h2, h3, h4, h5, h6⟩, h7, h8, h9⟩ := h
 have hk : ∀ k, k ≠ g → w2.heap[k]? = w1.heap[k]? := fun k hk => by rw [hw]; exact Below.heap_setCell _ _ _ k hk
 exact ⟨by rw [hw]; exact h1.setCell h2 _, ⟨h2, by rw [hw]; exact blk_put h3 0 _ rfl, ra_row h4 (fun k hk1 => hk k (fun e1 => ra_ne h4 h3 (by decide) (e1 ▸ hk1))), ra_row h5 (fun k hk1 => hk k (fun e1 => ra_ne h5 h3 (by decide) (e1 ▸ hk1))), h6⟩, h7, (hk e h9).trans h8, h9⟩
theorem ra_s1 {w w1 w2 : World} {e g : Nat} {fr bi : ByteArray} {p : Int} {vn vl : Value} {n li : List Int} (h : RaI w w1 e g fr p bi vn vl n li) (x : Int) (hw : w2 = w1.setCell ⟨g, 1, none⟩ (.int .i64 x)) : RaI w w2 e g fr x bi vn vl n li := by
 obtain ⟨h1, ⟨h2, h3, h4, h5, h6⟩, h7, h8, h9⟩ := h
 have hk : ∀ k, k ≠ g → w2.heap[k]? = w1.heap[k]? := fun k hk => by rw [hw]; exact Below.heap_setCell _ _ _ k hk
 exact ⟨by rw [hw]; exact h1.setCell h2 _, ⟨h2, by rw [hw]; exact blk_put h3 1 _ rfl, ra_row h4 (fun k hk1 => hk k (fun e1 => ra_ne h4 h3 (by decide) (e1 ▸ hk1))), ra_row h5 (fun k hk1 => hk k (fun e1 => ra_ne h5 h3 (by decide) (e1 ▸ hk1))), h6⟩, h7, (hk e h9).trans h8, h9⟩
theorem ra_s2 {w w1 w2 : World} {e g : Nat} {fr bi : ByteArray} {p : Int} {vn vl : Value} {n li : List Int} (h : RaI w w1 e g fr p bi vn vl n li) (x : ByteArray) (hw : w2 = w1.setCell ⟨g, 2, none⟩ (.string x)) : RaI w w2 e g fr p x vn vl n li := by
 obtain ⟨h1, ⟨h2, h3, h4, h5, h6⟩, h7, h8, h9⟩ := h
 have hk : ∀ k, k ≠ g → w2.heap[k]? = w1.heap[k]? := fun k hk => by rw [hw]; exact Below.heap_setCell _ _ _ k hk
 exact ⟨by rw [hw]; exact h1.setCell h2 _, ⟨h2, by rw [hw]; exact blk_put h3 2 _ rfl, ra_row h4 (fun k hk1 => hk k (fun e1 => ra_ne h4 h3 (by decide) (e1 ▸ hk1))), ra_row h5 (fun k hk1 => hk k (fun e1 => ra_ne h5 h3 (by decide) (e1 ▸ hk1))), h6⟩, h7, (hk e h9).trans h8, h9⟩
theorem ra_s3 {w w1 w2 w3 : World} {e g : Nat} {fr bi : ByteArray} {p : Int} {vn vl vn' : Value} {n li n' : List Int} (h : RaI w w1 e g fr p bi vn vl n li) (ho : Kd.R (Kd.int .i64) 2 w2 w.heap.size (fun _ => True) vn' n') (hb : Below w.heap.size w w2) (hg : w1.grownBy w2 vn.ownBlock) (hat : vn'.ownBlock = vn.ownBlock ∨ ∃ b, vn'.ownBlock = some b ∧ w1.heap.size ≤ b) (hw : w3 = w2.setCell ⟨g, 3, none⟩ vn') : RaI w w3 e g fr p bi vn' vl n' li := by
 obtain ⟨h1, ⟨h2, h3, h4, h5, h6⟩, h7, h8, h9⟩ := h
 have hk : ∀ k, k ≠ g → w3.heap[k]? = w2.heap[k]? := fun k hk => by rw [hw]; exact Below.heap_setCell _ _ _ k hk
 have h3' := (hg.block g (ra_blt h3) (fun e1 => ra_ne h4 h3 (by decide) e1.symm)).trans h3
 have h8' := (hg.block e (ra_blt h8) (fun e1 => ra_ne h4 h8 (by decide) e1.symm)).trans h8
 have h5' : Kd.R (Kd.int .i64) 2 w2 w.heap.size (fun _ => True) vl li := ra_row h5 (fun k hk1 => hg.block k (ra_lt h5 k hk1) (fun e1 => h6 k e1.symm hk1))
 refine ⟨by rw [hw]; exact hb.setCell h2 _, ⟨h2, by rw [hw]; exact blk_put h3' 3 _ rfl, ra_row ho (fun k hk1 => hk k (fun e1 => ra_ne ho h3' (by decide) (e1 ▸ hk1))), ra_row h5' (fun k hk1 => hk k (fun e1 => ra_ne h5' h3' (by decide) (e1 ▸ hk1))), fun k hk1 hk2 => ?_⟩, h7, (hk e h9).trans h8', h9⟩
 rcases hat with h10 | ⟨b, h10, h11⟩
 ·exact h6 k (h10.symm.trans hk1) hk2
 ·rw [hk1] at h10
  cases h10
  have := ra_lt h5 k hk2
  omega
theorem ra_s4 {w w1 w2 w3 : World} {e g : Nat} {fr bi : ByteArray} {p : Int} {vn vl vl' : Value} {n li li' : List Int} (h : RaI w w1 e g fr p bi vn vl n li) (hb : Below w1.heap.size w1 w2) (ho : Kd.R (Kd.int .i64) 2 w2 w1.heap.size (fun _ => True) vl' li') (hw : w3 = w2.setCell ⟨g, 4, none⟩ vl') : RaI w w3 e g fr p bi vn vl' n li' := by
 have hl := fun k hk => ra_lt h.2.1.2.2.1 k hk
 obtain ⟨h1, ⟨h2, h3, h4, h5, h6⟩, h7, h8, h9⟩ := ra_below h hb
 have hk : ∀ k, k ≠ g → w3.heap[k]? = w2.heap[k]? := fun k hk => by rw [hw]; exact Below.heap_setCell _ _ _ k hk
 have ho' := Kd.R_lower ho h.1.size
 refine ⟨by rw [hw]; exact h1.setCell h2 _, ⟨h2, by rw [hw]; exact blk_put h3 4 _ rfl, ra_row h4 (fun k hk1 => hk k (fun e1 => ra_ne h4 h3 (by decide) (e1 ▸ hk1))), ra_row ho' (fun k hk1 => hk k (fun e1 => ra_ne ho' h3 (by decide) (e1 ▸ hk1))), fun k hk1 hk2 => ?_⟩, h7, (hk e h9).trans h8, h9⟩
 have := hl k hk1
 have := ra_base ho k hk2
 omega
theorem ra_all {w w' : World} {e g : Nat} {fr bi : ByteArray} {p : Int} {vn vl : Value} {n li : List Int} (h : RaI w w' e g fr p bi vn vl n li) : (#[Value.string fr, .int .i64 p, .string bi, vn, vl] : Array Value).all (·.oneCell') = true := by
 obtain ⟨A3, c3, e3⟩ := Kd.R_slice h.2.1.2.2.1
 obtain ⟨A4, c4, e4⟩ := Kd.R_slice h.2.1.2.2.2.1
 rw [e3, e4]
 simp [Value.oneCell']
theorem ra_results {P : Program} {fn : Func} {p u : Tmp} {ty : TypeId} (h : fn.results = #[.cell p ty, .tmp u]) (tmps : Array Value) (w : World) (g : Nat) (t : TypeId) (cs : Array Value) (fr : Nat × Nat) (d : TypeDesc) (v : Value)
 (hp : tmps.getD p undef = .pointer (some ⟨g, 0, none⟩)) (hg : w.heap[g]? = some (.cells cs t fr))
 (hu : P.underlying ty = some d) (hd : (match d with | .struct _ | .array _ _ => true | _ => false) = true) (hi : (P.info? ty).map (·.size) = some cs.size) (hv : tmps.getD u undef = v) :
 (results fn tmps).run P w = .ok (.tuple #[.agg cs, v]) w := by
 have hp' : tmps[p]?.getD undef = .pointer (some ⟨g, 0, none⟩) := by simpa using hp
 have hv' : tmps[u]?.getD undef = v := by simpa using hv
 simp [results, h, hp', hv', asAddr, run_loadVar_row w g t ty cs fr d hg hu hd hi]
section
variable {P : Program} {ops : Array Oper} {rest : List Oper} {o : Oper} {a : Act} {Q : Exit → Act → World → Prop}
theorem ra_store {W : World} (hgd : o.guard = none) (hN : o.dst = none) (ty : TypeId) (x y : Operand) (ho : o.op = .store ty x y)
 (g : Nat) (cells : Array Value) (hx : a.eval x = .pointer (some ⟨g, 0, none⟩)) (hy : a.eval y = .agg cells)
 (t : TypeId) (old : Array Value) (hg : W.heap[g]? = some (.cells old t (0, 0))) (hi : (P.info? ty).map (·.size) = some cells.size)
 (hold : old.size = cells.size) (h1 : cells.all (·.oneCell') = true)
 (h : ∀ w1, w1.heap[g]? = some (.cells cells t (0, 0)) → (∀ k, k ≠ g → w1.heap[k]? = W.heap[k]?) → (∀ B w0, Below B w0 W → B ≤ g → Below B w0 w1) → wpList P ops Q rest a w1) : wpList P ops Q (o :: rest) a W := by
 refine wpList_store_row hgd ty x y ho g cells hx hy t old hg hi hold h1 ?_
 rw [hN]
 exact h _ (setRow_heap W g old cells t (0, 0) hg) (fun k hk => setRow_other W g k cells hk) (fun B w0 hb hB => below_setRow hb hB cells)
end
def impl_Console_read.l0 : Nat → List ByteArray → List ByteArray → ByteArray → List ByteArray → Int → ByteArray → Int → ByteArray → List Int → List Int → Option (ByteArray × Int × ByteArray × List Int × List Int × Bool)
 | 0, _, _, _, _, _, _, _, _, _, _ => none
 | k + 1, ns, ls, fo, lw, i, fr, p, bi, n, li => if i < (lw.length : Int) then (if 0 ≤ i then (if i < (fo.size : Int) then (if bt fo i = 65 then ((slices_Index_string_string.f k ns (rdOf ByteArray.empty lw i)).bind fun t => (if t ≥ 0 then (if t < (ls.length : Int) then (impl_Console_read.l0 k ns ls fo lw (wrap64 (i + 1)) fr t (rdOf ByteArray.empty ls t) n li) else (none)) else (some ((⟨#[]⟩ : ByteArray), (0 : Int), (⟨#[]⟩ : ByteArray), ([] : List Int), ([] : List Int), false)))) else (if bt fo i = 87 then (impl_Console_read.l0 k ns ls fo lw (wrap64 (i + 1)) (rdOf ByteArray.empty lw i) p bi n li) else (if bt fo i = 66 then (if (rdOf ByteArray.empty lw i).toList = ([110, 111, 110, 101] : List UInt8) then (impl_Console_read.l0 k ns ls fo lw (wrap64 (i + 1)) fr p bi n li) else (if (rdOf ByteArray.empty lw i).toList = ([] : List UInt8) then (some ((⟨#[]⟩ : ByteArray), (0 : Int), (⟨#[]⟩ : ByteArray), ([] : List Int), ([] : List Int), false)) else ((impl_areBits.f (rdOf ByteArray.empty lw i)).bind fun t => (if t = true then (impl_Console_read.l0 k ns ls fo lw (wrap64 (i + 1)) fr p (rdOf ByteArray.empty lw i) n li) else (some ((⟨#[]⟩ : ByteArray), (0 : Int), (⟨#[]⟩ : ByteArray), ([] : List Int), ([] : List Int), false)))))) else (if bt fo i = 78 then ((impl_ReadDecimal.f (rdOf ByteArray.empty lw i)).bind fun t => (if n.length < 1000 then (if t.2 = true then (impl_Console_read.l0 k ns ls fo lw (wrap64 (i + 1)) fr p bi (n ++ [t.1]) li) else (some ((⟨#[]⟩ : ByteArray), (0 : Int), (⟨#[]⟩ : ByteArray), ([] : List Int), ([] : List Int), false))) else (none))) else (if bt fo i = 76 then ((impl_ReadList.f k (rdOf ByteArray.empty lw i)).bind fun t => (if t.2 = true then (impl_Console_read.l0 k ns ls fo lw (wrap64 (i + 1)) fr p bi n t.1) else (some ((⟨#[]⟩ : ByteArray), (0 : Int), (⟨#[]⟩ : ByteArray), ([] : List Int), ([] : List Int), false)))) else (impl_Console_read.l0 k ns ls fo lw (wrap64 (i + 1)) fr p bi n li)))))) else (none)) else (none)) else (some (fr, p, bi, n, li, true))
def impl_Console_read.f (k : Nat) (ns ls : List ByteArray) (fo : ByteArray) (lw : List ByteArray) : Option (ByteArray × Int × ByteArray × List Int × List Int × Bool) := impl_Console_read.l0 k ns ls fo lw 0 (⟨#[]⟩ : ByteArray) 0 (⟨#[]⟩ : ByteArray) [] []
set_option maxHeartbeats 8000000 in
set_option maxRecDepth 100000 in
theorem impl_Console_read.calls (k : Nat) (base b : Nat) (v0 v1 : Value) (ns ls : List ByteArray) (fo : ByteArray) (A2 : Option Addr) (c2 : Nat) (lw : List ByteArray) (rf : ByteArray) (rp : Int) (rb : ByteArray) (rn rl : List Int) (rok : Bool) (w : World) (hC : conAt w base b v0 v1 ns ls) (hr2 : Kd.C Kd.string w A2 lw.length lw) (hc2 : lw.length ≤ c2) (hT : LibW w) (h : impl_Console_read.f k ns ls fo lw = some (rf, rp, rb, rn, rl, rok)) :
 Calls Tryz.prog 74 #[.pointer (some ⟨b, 0, none⟩), .string fo, .slice A2 lw.length c2] w fun e w' => ∃ vn vl : Value, e = .returned (.tuple #[.agg #[.string rf, .int .i64 rp, .string rb, vn, vl], .bool rok]) ∧ Kd.R (Kd.int .i64) 2 w' w.heap.size (fun _ => True) vn rn ∧ Kd.R (Kd.int .i64) 2 w' w.heap.size (fun _ => True) vl rl ∧ Below w.heap.size w w' := by
 have hu26 := Tryz.underlying42
 have hu59 := Tryz.underlying101
 have HC := Aside0.mk hC
 have HR2 := Aside0.mk hr2
 have HC2 := Aside0.mk hc2
 have HT := Aside0.mk hT
 obtain ⟨A0, c0, A1, c1, rfl, rfl, hl0, hl1, hC0, hC1⟩ := con_slices hC
 have HL0 := Aside0.mk hl0
 have HC0 := Aside0.mk hC0
 have HC1 := Aside0.mk hC1
 have HB := Aside0.mk (Below.refl w.heap.size w)
 clear hC hr2 hc2 hT hl0 hl1 hC0 hC1
 have H' := Aside0.mk h
 clear h
 go_enter Tryz.func74, Tryz.ntmps74
 go_wp2_with (first | ((with_reducible refine gate_dst (N := 6) rfl ?_); (try (refine gate_guard (by rfl) ?_; dsimp only)); refine box_event ?hg (N := 6) ?hd (cs := #[.string (⟨#[]⟩ : ByteArray), .int .i64 0, .string (⟨#[]⟩ : ByteArray), .slice none 0 0, .slice none 0 0]) (t := 101) ?hr ?_; (case hd => rfl); (case hg => rfl); (case hr => exact Qg0_); intro ge hgge wge hbox hb; have n0_ := Aside0.mk (below_step Qa0_ hb); have HGE := Aside0.mk (show w.heap.size ≤ ge by omega); have n1_ := Aside0.mk (hbox); clear HB; have HB := n0_; have BKge := n1_; clear n0_ n1_; clear hb hbox hgge; have hczge0 : wge.cell? ⟨ge, 0, none⟩ = some (.string (⟨#[]⟩ : ByteArray)) := (blk_cell BKge.out 0).trans rfl; have hczge1 : wge.cell? ⟨ge, 1, none⟩ = some (.int .i64 0) := (blk_cell BKge.out 1).trans rfl; have hczge2 : wge.cell? ⟨ge, 2, none⟩ = some (.string (⟨#[]⟩ : ByteArray)) := (blk_cell BKge.out 2).trans rfl; have hczge3 : wge.cell? ⟨ge, 3, none⟩ = some (.slice none 0 0) := (blk_cell BKge.out 3).trans rfl; have hczge4 : wge.cell? ⟨ge, 4, none⟩ = some (.slice none 0 0) := (blk_cell BKge.out 4).trans rfl) | ((with_reducible refine gate_dst (N := 8) rfl ?_); (try (refine gate_guard (by rfl) ?_; dsimp only)); refine box_event ?hg (N := 8) ?hd (cs := #[.string (⟨#[]⟩ : ByteArray), .int .i64 0, .string (⟨#[]⟩ : ByteArray), .slice none 0 0, .slice none 0 0]) (t := 101) ?hr ?_; (case hd => rfl); (case hg => rfl); (case hr => exact Qg0_); intro gg hggg wgg hbox hb; have n0_ := Aside0.mk (below_step Qa0_ hb); have BKE2 := Aside0.mk ((hb.block ge (ra_blt BKge.out)).trans BKge.out); have HNE := Aside0.mk (show ge ≠ gg from fun e_ => by have := ra_blt BKge.out; omega); have HGG := Aside0.mk (show w.heap.size ≤ gg by have := HB.out.size; omega); have n1_ := Aside0.mk (hbox); clear HB; have HB := n0_; have BKgg := n1_; clear n0_ n1_; clear hb hbox hggg; have hczgg0 : wgg.cell? ⟨gg, 0, none⟩ = some (.string (⟨#[]⟩ : ByteArray)) := (blk_cell BKgg.out 0).trans rfl; have hczgg1 : wgg.cell? ⟨gg, 1, none⟩ = some (.int .i64 0) := (blk_cell BKgg.out 1).trans rfl; have hczgg2 : wgg.cell? ⟨gg, 2, none⟩ = some (.string (⟨#[]⟩ : ByteArray)) := (blk_cell BKgg.out 2).trans rfl; have hczgg3 : wgg.cell? ⟨gg, 3, none⟩ = some (.slice none 0 0) := (blk_cell BKgg.out 3).trans rfl; have hczgg4 : wgg.cell? ⟨gg, 4, none⟩ = some (.slice none 0 0) := (blk_cell BKgg.out 4).trans rfl) | ((with_reducible refine gate_store (t := 101) (p := 8) rfl ?_); refine ra_store ?a1 ?a2 101 (.tmp 8) (.tmp 13) ?a3 gg #[.string (⟨#[]⟩ : ByteArray), .int .i64 0, .string (⟨#[]⟩ : ByteArray), .slice none 0 0, .slice none 0 0] ?a4 ?a5 101 #[.string (⟨#[]⟩ : ByteArray), .int .i64 0, .string (⟨#[]⟩ : ByteArray), .slice none 0 0, .slice none 0 0] BKgg.out ?a6 ?a7 ?a8 ?_; (case a1 => rfl); (case a2 => rfl); (case a3 => rfl); (case a4 => rfl); (case a5 => rfl); (case a6 => rfl); (case a7 => rfl); (case a8 => exact Qr0_); intro w1 hs1 hs2 hs3; have HI := Aside0.mk (show RaI w w1 ge gg (⟨#[]⟩ : ByteArray) 0 (⟨#[]⟩ : ByteArray) (.slice none 0 0) (.slice none 0 0) [] [] from ⟨hs3 _ _ HB.out HGG.out, ⟨HGG.out, hs1, ra_nil _ _, ra_nil _ _, fun k_ h_ => by cases h_⟩, HGE.out, (hs2 ge HNE.out).trans BKE2.out, HNE.out⟩); clear hs1 hs2 hs3 HB HGG HGE HNE BKE2 BKgg BKge))
 go_loopg [16] k (fun kq v16 w' => ∃ (i : Int) (fr : ByteArray) (p : Int) (bi : ByteArray) (vn vl : Value) (n li : List Int), v16 = .int .i64 i ∧ Aside0 (impl_Console_read.l0 kq ns ls fo lw i fr p bi n li = some (rf, rp, rb, rn, rl, rok)) ∧ Aside0 (kq ≤ k) ∧ Aside0 (RaI w w' ge gg fr p bi vn vl n li))
 case atStart => exact ⟨0, _, 0, _, _, _, [], [], Qc0_, H', ⟨Nat.le_refl _⟩, HI⟩
 case round =>
  clear HI H'
  obtain ⟨i, fr, p, bi, vn, vl, n, li, rfl, HA, HK1, HI⟩ := hrel
  cases gk with
  | zero => exact absurd HA.out (by simp [impl_Console_read.l0])
  | succ k1 =>
   have H := HA.out
   clear HA
   simp only [impl_Console_read.l0] at H
   have hcg0 : wr.cell? ⟨gg, 0, none⟩ = some (.string fr) := (blk_cell HI.out.2.1.2.1 0).trans rfl
   have hcg1 : wr.cell? ⟨gg, 1, none⟩ = some (.int .i64 p) := (blk_cell HI.out.2.1.2.1 1).trans rfl
   have hcg2 : wr.cell? ⟨gg, 2, none⟩ = some (.string bi) := (blk_cell HI.out.2.1.2.1 2).trans rfl
   have hcg3 : wr.cell? ⟨gg, 3, none⟩ = some vn := (blk_cell HI.out.2.1.2.1 3).trans rfl
   have hcg4 : wr.cell? ⟨gg, 4, none⟩ = some vl := (blk_cell HI.out.2.1.2.1 4).trans rfl
   by_cases d1 : i < (lw.length : Int)
   rotate_left
   ·rw [if_neg d1] at H
    simp only [Option.some.injEq, Prod.mk.injEq] at H
    obtain ⟨rfl, rfl, rfl, rfl, rfl, rfl⟩ := H
    have d1b0 : decide (i < (lw.length : Int)) = false := decide_eq_false d1
    clear d1
    go_wp2_with (first | ((with_reducible refine gate_store (t := 101) (p := 6) rfl ?_); refine ra_store ?a1 ?a2 101 (.tmp 6) (.tmp 87) ?a3 ge #[.string fr, .int .i64 p, .string bi, vn, vl] ?a4 ?a5 101 #[.string (⟨#[]⟩ : ByteArray), .int .i64 0, .string (⟨#[]⟩ : ByteArray), .slice none 0 0, .slice none 0 0] HI.out.2.2.2.1 ?a6 ?a7 ?a8 ?_; (case a1 => rfl); (case a2 => rfl); (case a3 => rfl); (case a4 => rfl); (case a5 => rfl); (case a6 => rfl); (case a7 => rfl); (case a8 => exact Qk1_); intro wz hs1 hs2 hs3; have HR1 := Aside0.mk hs1; have HR2_ := Aside0.mk hs2; have HR3 := Aside0.mk hs3; clear hs1 hs2 hs3))
    refine bodyPost_ret (ra_results rfl _ _ ge 101 #[.string fr, .int .i64 p, .string bi, vn, vl] (0, 0) _ (.bool true) rfl HR1.out Tryz.underlying101 rfl Qh0_ rfl) rfl ?_
    exact ⟨vn, vl, rfl, ra_row HI.out.2.1.2.2.1 (fun k_ hk_ => HR2_.out k_ (fun e_ => ra_ne HI.out.2.1.2.2.1 HI.out.2.2.2.1 (by decide) (e_ ▸ hk_))), ra_row HI.out.2.1.2.2.2.1 (fun k_ hk_ => HR2_.out k_ (fun e_ => ra_ne HI.out.2.1.2.2.2.1 HI.out.2.2.2.1 (by decide) (e_ ▸ hk_))), HR3.out _ _ HI.out.1 HI.out.2.2.1⟩
   rw [if_pos d1] at H
   by_cases d2 : 0 ≤ i
   rotate_left
   ·rw [if_neg d2] at H
    exact absurd H (by simp)
   rw [if_pos d2] at H
   by_cases d3 : i < (fo.size : Int)
   rotate_left
   ·rw [if_neg d3] at H
    exact absurd H (by simp)
   rw [if_pos d3] at H
   have d1b0 : decide (i < (lw.length : Int)) = true := decide_eq_true d1
   obtain ⟨adw, ew, hxw⟩ := Kd.at_string (Kd.C_below HR2.out HI.out.1) i d2 d1
   cases ew
   obtain ⟨wd, hwd⟩ : ∃ y : ByteArray, rdOf ByteArray.empty lw i = y := ⟨_, rfl⟩
   rw [hwd] at H hxw
   clear hwd
   have hx4 := bt_at fo i
   have p2 := eq_true d2
   have q1 := eq_true d1
   have q3 := eq_true d3
   clear d1 d2 d3
   have hcc0 : wr.cell? ⟨b, 0, none⟩ = some (.slice A0 ns.length c0) := (blk_cell (con_below HC.out HI.out.1).2.1 0).trans rfl
   have hfg0 := blk_frozen HI.out.2.1.2.1 0
   have hfg1 := blk_frozen HI.out.2.1.2.1 1
   have hfg2 := blk_frozen HI.out.2.1.2.1 2
   have hfg3 := blk_frozen HI.out.2.1.2.1 3
   have hfg4 := blk_frozen HI.out.2.1.2.1 4
   by_cases d4 : bt fo i = 65
   ·rw [if_pos d4] at H
    have d4b0 : (bt fo i == 65) = true := beq_iff_eq.mpr d4
    clear d4
    obtain ⟨t, B1, H⟩ := Option.bind_eq_some_iff.mp H
    have B1_ := Aside0.mk B1
    clear B1
    by_cases e1 : t ≥ 0
    ·rw [if_pos e1] at H
     by_cases e2 : t < (ls.length : Int)
     rotate_left
     ·rw [if_neg e2] at H
      exact absurd H (by simp)
     rw [if_pos e2] at H
     have e1b0 : decide (0 ≤ t) = true := decide_eq_true e1
     have E1 := Aside0.mk e1
     have E2 := Aside0.mk e2
     have H' := Aside0.mk H
     clear H e1 e2
     go_wp2_with (first | (go_at_call 59; (with_reducible refine (slices_Index_string_string.calls k1 A0 c0 ns wd t _ ?s1 ?s2 B1_.out).mono ?_); (case s1 => exact Kd.C_below HC0.out HI.out.1); (case s2 => exact HL0.out); rintro e w2 ⟨rfl, ⟨nd, rfl⟩⟩) | ((with_reducible refine gate_store (t := 3) (p := 32) rfl ?_); refine store_event (t := 3) (p := 32) (v := .tmp 31) (w1 := ((wr.drewN nd).setCell ⟨gg, 1, none⟩ (.int .i64 t))) ?hg ?ho ?hn ?hr ?_; (case ho => rfl); (case hg => rfl); (case hn => rfl); (case hr => exact Qg0_); intro w3 hw_; have HI2 := Aside0.mk (ra_s1 (ra_draw HI.out nd) _ hw_); clear hw_; have hcc1 : w3.cell? ⟨b, 1, none⟩ = some (.slice A1 ls.length c1) := (blk_cell (con_below HC.out HI2.out.1).2.1 1).trans rfl; have hcd1 : w3.cell? ⟨gg, 1, none⟩ = some (.int .i64 t) := (blk_cell HI2.out.2.1.2.1 1).trans rfl; have hcd2 : w3.cell? ⟨gg, 2, none⟩ = some (.string bi) := (blk_cell HI2.out.2.1.2.1 2).trans rfl; have hfd2 := blk_frozen HI2.out.2.1.2.1 2; obtain ⟨adl, el, hxl⟩ := Kd.at_string (Kd.C_below HC1.out HI2.out.1) t E1.out E2.out; cases el; have pt := eq_true E1.out; have qt := eq_true E2.out))
     go_region
     go_wp2
     go_roundg k1
     case measure => have := HK1.out; omega
     case rel => exact ⟨(wrap64 (i + 1)), _, _, _, _, _, _, _, Qc0_, H', ⟨Qs0_⟩, ⟨by first | exact ra_s2 (ra_draw HI2.out _) _ rfl | exact ra_draw (ra_s2 HI2.out _ rfl) _ | exact ra_s2 HI2.out _ rfl⟩⟩
    ·rw [if_neg e1] at H
     simp only [Option.some.injEq, Prod.mk.injEq] at H; obtain ⟨rfl, rfl, rfl, rfl, rfl, rfl⟩ := H
     have e1b0 : decide (0 ≤ t) = false := decide_eq_false e1
     clear e1
     go_wp2_with (first | (go_at_call 59; (with_reducible refine (slices_Index_string_string.calls k1 A0 c0 ns wd t _ ?s1 ?s2 B1_.out).mono ?_); (case s1 => exact Kd.C_below HC0.out HI.out.1); (case s2 => exact HL0.out); rintro e w2 ⟨rfl, ⟨nd, rfl⟩⟩) | ((with_reducible refine gate_store (t := 3) (p := 32) rfl ?_); refine store_event (t := 3) (p := 32) (v := .tmp 31) (w1 := ((wr.drewN nd).setCell ⟨gg, 1, none⟩ (.int .i64 t))) ?hg ?ho ?hn ?hr ?_; (case ho => rfl); (case hg => rfl); (case hn => rfl); (case hr => exact Qg0_); intro w3 hw_; have HI2 := Aside0.mk (ra_s1 (ra_draw HI.out nd) _ hw_); clear hw_; have hcd1 : w3.cell? ⟨gg, 1, none⟩ = some (.int .i64 t) := (blk_cell HI2.out.2.1.2.1 1).trans rfl) | ((with_reducible refine gate_store (t := 101) (p := 6) rfl ?_); refine ra_store ?a1 ?a2 101 (.tmp 6) (.tmp 85) ?a3 ge #[.string (⟨#[]⟩ : ByteArray), .int .i64 0, .string (⟨#[]⟩ : ByteArray), .slice none 0 0, .slice none 0 0] ?a4 ?a5 101 #[.string (⟨#[]⟩ : ByteArray), .int .i64 0, .string (⟨#[]⟩ : ByteArray), .slice none 0 0, .slice none 0 0] HI2.out.2.2.2.1 ?a6 ?a7 ?a8 ?_; (case a1 => rfl); (case a2 => rfl); (case a3 => rfl); (case a4 => rfl); (case a5 => rfl); (case a6 => rfl); (case a7 => rfl); (case a8 => exact Qk1_); intro wz hs1 hs2 hs3; have HR1 := Aside0.mk hs1; have HR2_ := Aside0.mk hs2; have HR3 := Aside0.mk hs3; clear hs1 hs2 hs3))
     refine bodyPost_ret (ra_results rfl _ _ ge 101 #[.string (⟨#[]⟩ : ByteArray), .int .i64 0, .string (⟨#[]⟩ : ByteArray), .slice none 0 0, .slice none 0 0] (0, 0) _ (.bool false) rfl HR1.out Tryz.underlying101 rfl Qh0_ rfl) rfl ?_; exact ⟨_, _, rfl, ra_nil _ _, ra_nil _ _, HR3.out _ _ HI2.out.1 HI2.out.2.2.1⟩
   rw [if_neg d4] at H
   have d4b0 : (bt fo i == 65) = false := beq_eq_false_iff_ne.mpr d4
   clear d4
   by_cases d5 : bt fo i = 87
   ·rw [if_pos d5] at H
    have d5b0 : (bt fo i == 87) = true := beq_iff_eq.mpr d5
    have H' := Aside0.mk H
    clear d5 H
    go_wp2
    go_roundg k1; (case measure => exact Qs0_); (case rel => exact ⟨(wrap64 (i + 1)), _, _, _, _, _, _, _, Qc0_, H', ⟨Qs0_⟩, ⟨ra_s0 HI.out _ rfl⟩⟩)
   rw [if_neg d5] at H
   have d5b0 : (bt fo i == 87) = false := beq_eq_false_iff_ne.mpr d5
   clear d5
   by_cases d6 : bt fo i = 66
   ·rw [if_pos d6] at H
    have d6b0 : (bt fo i == 66) = true := beq_iff_eq.mpr d6
    clear d6
    by_cases e1 : wd.toList = ([110, 111, 110, 101] : List UInt8)
    ·rw [if_pos e1] at H
     have e1b0 : (wd.toList == ([110, 111, 110, 101] : List UInt8)) = true := beq_iff_eq.mpr e1
     have e1b1 : (wd.toList != ([110, 111, 110, 101] : List UInt8)) = false := bne_eq_false_iff_eq.mpr e1
     have H' := Aside0.mk H
     clear e1 H
     go_wp2
     go_roundg k1; (case measure => exact Qs0_); (case rel => exact ⟨(wrap64 (i + 1)), _, _, _, _, _, _, _, Qc0_, H', ⟨Qs0_⟩, ⟨HI.out⟩⟩)
    rw [if_neg e1] at H
    have e1b0 : (wd.toList == ([110, 111, 110, 101] : List UInt8)) = false := beq_eq_false_iff_ne.mpr e1
    have e1b1 : (wd.toList != ([110, 111, 110, 101] : List UInt8)) = true := bne_iff_ne.mpr e1
    clear e1
    by_cases e2 : wd.toList = ([] : List UInt8)
    ·rw [if_pos e2] at H
     simp only [Option.some.injEq, Prod.mk.injEq] at H; obtain ⟨rfl, rfl, rfl, rfl, rfl, rfl⟩ := H
     have e2b0 : (wd.toList == ([] : List UInt8)) = true := beq_iff_eq.mpr e2
     have e2b1 : (wd.toList != ([] : List UInt8)) = false := bne_eq_false_iff_eq.mpr e2
     clear e2
     go_wp2_with (first | ((with_reducible refine gate_store (t := 9) (p := 61) rfl ?_); refine store_event (t := 9) (p := 61) (v := .tmp 60) (w1 := (wr.setCell ⟨gg, 2, none⟩ (.string wd))) ?hg ?ho ?hn ?hr ?_; (case ho => rfl); (case hg => rfl); (case hn => rfl); (case hr => exact Qg0_); intro w3 hw_; have HI2 := Aside0.mk (ra_s2 HI.out _ hw_); clear hw_) | ((with_reducible refine gate_store (t := 101) (p := 6) rfl ?_); refine ra_store ?a1 ?a2 101 (.tmp 6) (.tmp 85) ?a3 ge #[.string (⟨#[]⟩ : ByteArray), .int .i64 0, .string (⟨#[]⟩ : ByteArray), .slice none 0 0, .slice none 0 0] ?a4 ?a5 101 #[.string (⟨#[]⟩ : ByteArray), .int .i64 0, .string (⟨#[]⟩ : ByteArray), .slice none 0 0, .slice none 0 0] HI2.out.2.2.2.1 ?a6 ?a7 ?a8 ?_; (case a1 => rfl); (case a2 => rfl); (case a3 => rfl); (case a4 => rfl); (case a5 => rfl); (case a6 => rfl); (case a7 => rfl); (case a8 => exact Qk1_); intro wz hs1 hs2 hs3; have HR1 := Aside0.mk hs1; have HR2_ := Aside0.mk hs2; have HR3 := Aside0.mk hs3; clear hs1 hs2 hs3))
     refine bodyPost_ret (ra_results rfl _ _ ge 101 #[.string (⟨#[]⟩ : ByteArray), .int .i64 0, .string (⟨#[]⟩ : ByteArray), .slice none 0 0, .slice none 0 0] (0, 0) _ (.bool false) rfl HR1.out Tryz.underlying101 rfl Qh0_ rfl) rfl ?_; exact ⟨_, _, rfl, ra_nil _ _, ra_nil _ _, HR3.out _ _ HI2.out.1 HI2.out.2.2.1⟩
    rw [if_neg e2] at H
    have e2b0 : (wd.toList == ([] : List UInt8)) = false := beq_eq_false_iff_ne.mpr e2
    have e2b1 : (wd.toList != ([] : List UInt8)) = true := bne_iff_ne.mpr e2
    clear e2
    obtain ⟨t, B1, H⟩ := Option.bind_eq_some_iff.mp H
    have B1_ := Aside0.mk B1
    clear B1
    cases t with
    | true =>
     rw [if_pos rfl] at H
     have H' := Aside0.mk H
     clear H
     go_wp2_with (first | (go_at_call 62; (with_reducible refine (impl_areBits.calls wd true _ B1_.out).mono ?_); rintro e w2 ⟨rfl, hb⟩; have HI1 := Aside0.mk (ra_below HI.out hb); clear hb; have hcd2 : w2.cell? ⟨gg, 2, none⟩ = some (.string bi) := (blk_cell HI1.out.2.1.2.1 2).trans rfl; have hfd2 := blk_frozen HI1.out.2.1.2.1 2))
     go_roundg k1; (case measure => exact Qs0_); (case rel => exact ⟨(wrap64 (i + 1)), _, _, _, _, _, _, _, Qc0_, H', ⟨Qs0_⟩, ⟨ra_s2 HI1.out _ rfl⟩⟩)
    | false =>
     rw [if_neg (fun h_ => Bool.false_ne_true h_)] at H
     simp only [Option.some.injEq, Prod.mk.injEq] at H; obtain ⟨rfl, rfl, rfl, rfl, rfl, rfl⟩ := H
     go_wp2_with (first | (go_at_call 62; (with_reducible refine (impl_areBits.calls wd false _ B1_.out).mono ?_); rintro e w2 ⟨rfl, hb⟩; have HI1 := Aside0.mk (ra_below HI.out hb); clear hb; have hcd2 : w2.cell? ⟨gg, 2, none⟩ = some (.string bi) := (blk_cell HI1.out.2.1.2.1 2).trans rfl; have hfd2 := blk_frozen HI1.out.2.1.2.1 2) | ((with_reducible refine gate_store (t := 9) (p := 61) rfl ?_); refine store_event (t := 9) (p := 61) (v := .tmp 60) (w1 := (w2.setCell ⟨gg, 2, none⟩ (.string wd))) ?hg ?ho ?hn ?hr ?_; (case ho => rfl); (case hg => rfl); (case hn => rfl); (case hr => exact Qg0_); intro w3 hw_; have HI2 := Aside0.mk (ra_s2 HI1.out _ hw_); clear hw_) | ((with_reducible refine gate_store (t := 101) (p := 6) rfl ?_); refine ra_store ?a1 ?a2 101 (.tmp 6) (.tmp 85) ?a3 ge #[.string (⟨#[]⟩ : ByteArray), .int .i64 0, .string (⟨#[]⟩ : ByteArray), .slice none 0 0, .slice none 0 0] ?a4 ?a5 101 #[.string (⟨#[]⟩ : ByteArray), .int .i64 0, .string (⟨#[]⟩ : ByteArray), .slice none 0 0, .slice none 0 0] HI2.out.2.2.2.1 ?a6 ?a7 ?a8 ?_; (case a1 => rfl); (case a2 => rfl); (case a3 => rfl); (case a4 => rfl); (case a5 => rfl); (case a6 => rfl); (case a7 => rfl); (case a8 => exact Qk1_); intro wz hs1 hs2 hs3; have HR1 := Aside0.mk hs1; have HR2_ := Aside0.mk hs2; have HR3 := Aside0.mk hs3; clear hs1 hs2 hs3))
     refine bodyPost_ret (ra_results rfl _ _ ge 101 #[.string (⟨#[]⟩ : ByteArray), .int .i64 0, .string (⟨#[]⟩ : ByteArray), .slice none 0 0, .slice none 0 0] (0, 0) _ (.bool false) rfl HR1.out Tryz.underlying101 rfl Qh0_ rfl) rfl ?_; exact ⟨_, _, rfl, ra_nil _ _, ra_nil _ _, HR3.out _ _ HI2.out.1 HI2.out.2.2.1⟩
   rw [if_neg d6] at H
   have d6b0 : (bt fo i == 66) = false := beq_eq_false_iff_ne.mpr d6
   clear d6
   by_cases d7 : bt fo i = 78
   ·rw [if_pos d7] at H
    have d7b0 : (bt fo i == 78) = true := beq_iff_eq.mpr d7
    clear d7
    obtain ⟨⟨x, t⟩, B1, H⟩ := Option.bind_eq_some_iff.mp H
    have B1_ := Aside0.mk B1
    clear B1
    by_cases e1 : n.length < 1000
    rotate_left
    ·rw [if_neg e1] at H
     exact absurd H (by simp)
    rw [if_pos e1] at H
    have HL := Aside0.mk e1
    clear e1
    cases t with
    | true =>
     rw [if_pos rfl] at H
     have H' := Aside0.mk H
     clear H
     go_wp2_with (first | (go_at_call 90; (with_reducible refine (impl_ReadDecimal.calls wd x true _ ?tb B1_.out).mono ?_); (case tb => exact tabBelow HT.out HI.out.1); rintro e w2 ⟨rfl, hb⟩; have HI1 := Aside0.mk (ra_below HI.out hb); clear hb; have hcd3 : w2.cell? ⟨gg, 3, none⟩ = some vn := (blk_cell HI1.out.2.1.2.1 3).trans rfl; have hfd3 := blk_frozen HI1.out.2.1.2.1 3) | ((with_reducible refine gate_builtin (b := .append) (xs := #[.tmp 70, .tmp 72]) rfl ?_); at_builtin; refine Kd.R_append (Kd.int .i64) (w0 := w) w.heap.size rfl (.tmp 70) (.tmp 72) 29 2 (.int .i64 0) 8 rfl Tryz.underlying29 info2 rfl (by decide) (by omega) vn n x [.int .i64 x] (fun _ => True) (fun _ => False) rfl rfl ?aP (fun _ hk => hk.elim) (fun _ _ => trivial) ?aO ?aB ?aS ?aL ?_; (case aP => exact rfl); (case aB => exact HI1.out.1); (case aO => exact HI1.out.2.1.2.2.1); (case aS => exact HI1.out.1.size); (case aL => have := HL.out; omega); intro v73 w73 ho hb hg_ hat_; obtain ⟨Ax, cx, ex⟩ := Kd.R_slice ho; subst ex; have HO := Aside0.mk (And.intro ho (And.intro hb (And.intro hg_ hat_))); have hgg_ := (hg_.block gg (ra_blt HI1.out.2.1.2.1) (fun e1 => ra_ne HI1.out.2.1.2.2.1 HI1.out.2.1.2.1 (by decide) e1.symm)).trans HI1.out.2.1.2.1; have hce3 : w73.cell? ⟨gg, 3, none⟩ = some vn := (blk_cell hgg_ 3).trans rfl; have hfe3 := blk_frozen hgg_ 3; clear ho hb hg_ hat_ hgg_) | ((with_reducible refine gate_store (t := 29) (p := 74) rfl ?_); refine store_event (t := 29) (p := 74) (v := .tmp 73) (w1 := (w73.setCell ⟨gg, 3, none⟩ (.slice Ax (n ++ [x]).length cx))) ?hg ?ho ?hn ?hr ?_; (case ho => rfl); (case hg => rfl); (case hn => rfl); (case hr => exact Qg0_); intro w3 hw_; have HI2 := Aside0.mk (ra_s3 HI1.out HO.out.1 HO.out.2.1 HO.out.2.2.1 HO.out.2.2.2 hw_); clear hw_))
     go_roundg k1; (case measure => exact Qs0_); (case rel => exact ⟨(wrap64 (i + 1)), _, _, _, _, _, _, _, Qc0_, H', ⟨Qs0_⟩, ⟨HI2.out⟩⟩)
    | false =>
     rw [if_neg (fun h_ => Bool.false_ne_true h_)] at H
     simp only [Option.some.injEq, Prod.mk.injEq] at H; obtain ⟨rfl, rfl, rfl, rfl, rfl, rfl⟩ := H
     go_wp2_with (first | (go_at_call 90; (with_reducible refine (impl_ReadDecimal.calls wd x false _ ?tb B1_.out).mono ?_); (case tb => exact tabBelow HT.out HI.out.1); rintro e w2 ⟨rfl, hb⟩; have HI1 := Aside0.mk (ra_below HI.out hb); clear hb; have hcd3 : w2.cell? ⟨gg, 3, none⟩ = some vn := (blk_cell HI1.out.2.1.2.1 3).trans rfl; have hfd3 := blk_frozen HI1.out.2.1.2.1 3) | ((with_reducible refine gate_builtin (b := .append) (xs := #[.tmp 70, .tmp 72]) rfl ?_); at_builtin; refine Kd.R_append (Kd.int .i64) (w0 := w) w.heap.size rfl (.tmp 70) (.tmp 72) 29 2 (.int .i64 0) 8 rfl Tryz.underlying29 info2 rfl (by decide) (by omega) vn n x [.int .i64 x] (fun _ => True) (fun _ => False) rfl rfl ?aP (fun _ hk => hk.elim) (fun _ _ => trivial) ?aO ?aB ?aS ?aL ?_; (case aP => exact rfl); (case aB => exact HI1.out.1); (case aO => exact HI1.out.2.1.2.2.1); (case aS => exact HI1.out.1.size); (case aL => have := HL.out; omega); intro v73 w73 ho hb hg_ hat_; obtain ⟨Ax, cx, ex⟩ := Kd.R_slice ho; subst ex; have HO := Aside0.mk (And.intro ho (And.intro hb (And.intro hg_ hat_))); have hgg_ := (hg_.block gg (ra_blt HI1.out.2.1.2.1) (fun e1 => ra_ne HI1.out.2.1.2.2.1 HI1.out.2.1.2.1 (by decide) e1.symm)).trans HI1.out.2.1.2.1; have hce3 : w73.cell? ⟨gg, 3, none⟩ = some vn := (blk_cell hgg_ 3).trans rfl; have hfe3 := blk_frozen hgg_ 3; clear ho hb hg_ hat_ hgg_) | ((with_reducible refine gate_store (t := 29) (p := 74) rfl ?_); refine store_event (t := 29) (p := 74) (v := .tmp 73) (w1 := (w73.setCell ⟨gg, 3, none⟩ (.slice Ax (n ++ [x]).length cx))) ?hg ?ho ?hn ?hr ?_; (case ho => rfl); (case hg => rfl); (case hn => rfl); (case hr => exact Qg0_); intro w3 hw_; have HI2 := Aside0.mk (ra_s3 HI1.out HO.out.1 HO.out.2.1 HO.out.2.2.1 HO.out.2.2.2 hw_); clear hw_) | ((with_reducible refine gate_store (t := 101) (p := 6) rfl ?_); refine ra_store ?a1 ?a2 101 (.tmp 6) (.tmp 85) ?a3 ge #[.string (⟨#[]⟩ : ByteArray), .int .i64 0, .string (⟨#[]⟩ : ByteArray), .slice none 0 0, .slice none 0 0] ?a4 ?a5 101 #[.string (⟨#[]⟩ : ByteArray), .int .i64 0, .string (⟨#[]⟩ : ByteArray), .slice none 0 0, .slice none 0 0] HI2.out.2.2.2.1 ?a6 ?a7 ?a8 ?_; (case a1 => rfl); (case a2 => rfl); (case a3 => rfl); (case a4 => rfl); (case a5 => rfl); (case a6 => rfl); (case a7 => rfl); (case a8 => exact Qk1_); intro wz hs1 hs2 hs3; have HR1 := Aside0.mk hs1; have HR2_ := Aside0.mk hs2; have HR3 := Aside0.mk hs3; clear hs1 hs2 hs3))
     refine bodyPost_ret (ra_results rfl _ _ ge 101 #[.string (⟨#[]⟩ : ByteArray), .int .i64 0, .string (⟨#[]⟩ : ByteArray), .slice none 0 0, .slice none 0 0] (0, 0) _ (.bool false) rfl HR1.out Tryz.underlying101 rfl Qh0_ rfl) rfl ?_; exact ⟨_, _, rfl, ra_nil _ _, ra_nil _ _, HR3.out _ _ HI2.out.1 HI2.out.2.2.1⟩
   rw [if_neg d7] at H
   have d7b0 : (bt fo i == 78) = false := beq_eq_false_iff_ne.mpr d7
   clear d7
   by_cases d8 : bt fo i = 76
   ·rw [if_pos d8] at H
    have d8b0 : (bt fo i == 76) = true := beq_iff_eq.mpr d8
    clear d8
    obtain ⟨⟨xl, t⟩, B1, H⟩ := Option.bind_eq_some_iff.mp H
    have B1_ := Aside0.mk B1
    clear B1
    cases t with
    | true =>
     rw [if_pos rfl] at H
     have H' := Aside0.mk H
     clear H
     go_wp2_with (first | (go_at_call 91; (with_reducible refine (impl_ReadList.calls k1 wd xl true _ ?tb B1_.out).mono ?_); (case tb => exact tabBelow HT.out HI.out.1); rintro e w2 ⟨vx, rfl, hr, hb⟩; obtain ⟨Ax, cx, ex⟩ := Kd.R_slice hr; subst ex; have HI1 := Aside0.mk (ra_below HI.out hb); have HO := Aside0.mk (And.intro hb hr); clear hb hr; have hcd4 : w2.cell? ⟨gg, 4, none⟩ = some vl := (blk_cell HI1.out.2.1.2.1 4).trans rfl; have hfd4 := blk_frozen HI1.out.2.1.2.1 4) | ((with_reducible refine gate_store (t := 29) (p := 82) rfl ?_); refine store_event (t := 29) (p := 82) (v := .tmp 80) (w1 := (w2.setCell ⟨gg, 4, none⟩ (.slice Ax xl.length cx))) ?hg ?ho ?hn ?hr ?_; (case ho => rfl); (case hg => rfl); (case hn => rfl); (case hr => exact Qg0_); intro w3 hw_; have HI2 := Aside0.mk (ra_s4 HI.out HO.out.1 HO.out.2 hw_); clear hw_))
     go_roundg k1; (case measure => exact Qs0_); (case rel => exact ⟨(wrap64 (i + 1)), _, _, _, _, _, _, _, Qc0_, H', ⟨Qs0_⟩, ⟨HI2.out⟩⟩)
    | false =>
     rw [if_neg (fun h_ => Bool.false_ne_true h_)] at H
     simp only [Option.some.injEq, Prod.mk.injEq] at H; obtain ⟨rfl, rfl, rfl, rfl, rfl, rfl⟩ := H
     go_wp2_with (first | (go_at_call 91; (with_reducible refine (impl_ReadList.calls k1 wd xl false _ ?tb B1_.out).mono ?_); (case tb => exact tabBelow HT.out HI.out.1); rintro e w2 ⟨vx, rfl, hr, hb⟩; obtain ⟨Ax, cx, ex⟩ := Kd.R_slice hr; subst ex; have HI1 := Aside0.mk (ra_below HI.out hb); have HO := Aside0.mk (And.intro hb hr); clear hb hr; have hcd4 : w2.cell? ⟨gg, 4, none⟩ = some vl := (blk_cell HI1.out.2.1.2.1 4).trans rfl; have hfd4 := blk_frozen HI1.out.2.1.2.1 4) | ((with_reducible refine gate_store (t := 29) (p := 82) rfl ?_); refine store_event (t := 29) (p := 82) (v := .tmp 80) (w1 := (w2.setCell ⟨gg, 4, none⟩ (.slice Ax xl.length cx))) ?hg ?ho ?hn ?hr ?_; (case ho => rfl); (case hg => rfl); (case hn => rfl); (case hr => exact Qg0_); intro w3 hw_; have HI2 := Aside0.mk (ra_s4 HI.out HO.out.1 HO.out.2 hw_); clear hw_) | ((with_reducible refine gate_store (t := 101) (p := 6) rfl ?_); refine ra_store ?a1 ?a2 101 (.tmp 6) (.tmp 85) ?a3 ge #[.string (⟨#[]⟩ : ByteArray), .int .i64 0, .string (⟨#[]⟩ : ByteArray), .slice none 0 0, .slice none 0 0] ?a4 ?a5 101 #[.string (⟨#[]⟩ : ByteArray), .int .i64 0, .string (⟨#[]⟩ : ByteArray), .slice none 0 0, .slice none 0 0] HI2.out.2.2.2.1 ?a6 ?a7 ?a8 ?_; (case a1 => rfl); (case a2 => rfl); (case a3 => rfl); (case a4 => rfl); (case a5 => rfl); (case a6 => rfl); (case a7 => rfl); (case a8 => exact Qk1_); intro wz hs1 hs2 hs3; have HR1 := Aside0.mk hs1; have HR2_ := Aside0.mk hs2; have HR3 := Aside0.mk hs3; clear hs1 hs2 hs3))
     refine bodyPost_ret (ra_results rfl _ _ ge 101 #[.string (⟨#[]⟩ : ByteArray), .int .i64 0, .string (⟨#[]⟩ : ByteArray), .slice none 0 0, .slice none 0 0] (0, 0) _ (.bool false) rfl HR1.out Tryz.underlying101 rfl Qh0_ rfl) rfl ?_; exact ⟨_, _, rfl, ra_nil _ _, ra_nil _ _, HR3.out _ _ HI2.out.1 HI2.out.2.2.1⟩
   rw [if_neg d8] at H
   have d8b0 : (bt fo i == 76) = false := beq_eq_false_iff_ne.mpr d8
   have H' := Aside0.mk H
   clear d8 H
   go_wp2
   go_roundg k1; (case measure => exact Qs0_); (case rel => exact ⟨(wrap64 (i + 1)), _, _, _, _, _, _, _, Qc0_, H', ⟨Qs0_⟩, ⟨HI.out⟩⟩)
def impl_orNone.f (a0 : ByteArray) : Option (ByteArray) := if a0.toList = ([] : List UInt8) then (some (⟨#[110, 111, 110, 101]⟩ : ByteArray)) else (some a0)
set_option maxHeartbeats 8000000 in
set_option maxRecDepth 100000 in
theorem impl_orNone.calls (a0 : ByteArray) (r : ByteArray) (w : World) (h : impl_orNone.f a0 = some r) :
 Calls Tryz.prog 93 #[.string a0] w fun e w' => e = .returned (.string r) ∧ Drawn0 w w' := by
 have H : (if a0.toList = ([] : List UInt8) then (some (⟨#[110, 111, 110, 101]⟩ : ByteArray)) else (some a0)) = some r := h
 clear h
 by_cases c2 : a0.toList = ([] : List UInt8)
 ·rw [if_pos c2] at H
  have c2b0 := beq_iff_eq.mpr c2
  have c2b1 := bne_eq_false_iff_eq.mpr c2
  clear c2
  obtain rfl := Option.some.inj H
  go_enter Tryz.func93, Tryz.ntmps93
  go_wp2
  go_ret
  exact ⟨Qc0_, Qf0_⟩
 ·rw [if_neg c2] at H
  have c2b0 := beq_eq_false_iff_ne.mpr c2
  have c2b1 := bne_iff_ne.mpr c2
  obtain rfl := Option.some.inj H
  go_enter Tryz.func93, Tryz.ntmps93
  go_wp2
  go_ret
  exact ⟨Qc0_, Qf0_⟩
theorem db_row {w w1 : World} {base : Nat} {v : Value} {xs : List Int} (h : Kd.R (Kd.int .i64) 2 w base (fun _ => True) v xs) (hm : ∀ k, v.ownBlock = some k → w1.heap[k]? = w.heap[k]?) : Kd.R (Kd.int .i64) 2 w1 base (fun _ => True) v xs :=
 Kd.R_of_own (own_move (Kd.own_of_R h) hm) (fun _ _ => trivial)
theorem db_lt {w : World} {base : Nat} {v : Value} {xs : List Int} (h : Kd.R (Kd.int .i64) 2 w base (fun _ => True) v xs) : ∀ k, v.ownBlock = some k → k < w.heap.size := fun k hk => own_lt (Kd.own_of_R h) k hk
theorem db_ne {w : World} {base b : Nat} {v : Value} {xs : List Int} {cells : Array Value} (h : Kd.R (Kd.int .i64) 2 w base (fun _ => True) v xs) (hb : w.heap[b]? = some (.cells cells 26 (0, 0))) : v.ownBlock ≠ some b := fun e => Kd.R_ne h hb (by decide) e.symm
def DbI (w w' : World) (gb : Nat) (cs : Array Value) (vd vw : Value) (da wr : List Int) : Prop :=
 EbI w w' gb cs ∧ Kd.R (Kd.int .i64) 2 w' w.heap.size (fun _ => True) vd da ∧ Kd.R (Kd.int .i64) 2 w' w.heap.size (fun _ => True) vw wr ∧ ∀ k, vd.ownBlock = some k → vw.ownBlock ≠ some k
theorem DbI.below {w w1 w2 : World} {gb : Nat} {cs : Array Value} {vd vw : Value} {da wr : List Int} (h : DbI w w1 gb cs vd vw da wr) (hB : Below w1.heap.size w1 w2) : DbI w w2 gb cs vd vw da wr :=
 ⟨h.1.below hB, db_row h.2.1 (fun k hk => hB.block k (db_lt h.2.1 k hk)), db_row h.2.2.1 (fun k hk => hB.block k (db_lt h.2.2.1 k hk)), h.2.2.2⟩
theorem DbI.drewN {w w1 : World} {gb : Nat} {cs : Array Value} {vd vw : Value} {da wr : List Int} (h : DbI w w1 gb cs vd vw da wr) (n : Nat) : DbI w (w1.drewN n) gb cs vd vw da wr := h.below (pw_below_drewN (Below.refl _ _) n)
theorem DbI.wrong {w w1 w2 : World} {gb : Nat} {cs : Array Value} {vd vw vw2 : Value} {da wr wr2 : List Int} (h : DbI w w1 gb cs vd vw da wr) (ho : Kd.R (Kd.int .i64) 2 w2 w.heap.size (fun _ => True) vw2 wr2) (hb : Below w.heap.size w w2) (hg : w1.grownBy w2 vw.ownBlock) (hat : vw2.ownBlock = vw.ownBlock ∨ ∃ b, vw2.ownBlock = some b ∧ w1.heap.size ≤ b) : DbI w w2 gb cs vd vw2 da wr2 := by
 refine ⟨⟨(hg.block gb (blk_lt h.1.1) (fun e => db_ne h.2.2.1 h.1.1 e.symm)).trans h.1.1, hb⟩, db_row h.2.1 (fun k hk => hg.block k (db_lt h.2.1 k hk) (fun e => h.2.2.2 k hk e.symm)), ho, fun k h1 h2 => ?_⟩
 rcases hat with h3 | ⟨b, h3, h4⟩
 ·exact h.2.2.2 k h1 (h3.symm.trans h2)
 ·rw [h2] at h3
  cases h3
  have := db_lt h.2.1 k h1
  omega
theorem DbI.data {w w1 w2 : World} {gb : Nat} {cs : Array Value} {vd vw vd2 : Value} {da wr da2 : List Int} (h : DbI w w1 gb cs vd vw da wr) (ho : Kd.R (Kd.int .i64) 2 w2 w.heap.size (fun _ => True) vd2 da2) (hb : Below w.heap.size w w2) (hg : w1.grownBy w2 vd.ownBlock) (hat : vd2.ownBlock = vd.ownBlock ∨ ∃ b, vd2.ownBlock = some b ∧ w1.heap.size ≤ b) : DbI w w2 gb cs vd2 vw da2 wr := by
 refine ⟨⟨(hg.block gb (blk_lt h.1.1) (fun e => db_ne h.2.1 h.1.1 e.symm)).trans h.1.1, hb⟩, ho, db_row h.2.2.1 (fun k hk => hg.block k (db_lt h.2.2.1 k hk) (fun e => h.2.2.2 k e.symm hk)), fun k h1 h2 => ?_⟩
 rcases hat with h3 | ⟨b, h3, h4⟩
 ·exact h.2.2.2 k (h3.symm.trans h1) h2
 ·rw [h1] at h3
  cases h3
  have := db_lt h.2.2.1 k h2
  omega
def impl_DecodeBlocks.l0 : Nat → Int → List ByteArray → List ByteArray → ByteArray → Int → List Int → List Int → Option (List Int × List Int × Int × Bool)
 | 0, _, _, _, _, _, _, _ => none
 | k + 1, wd, mi, pl, s, st, da, wr => if (s.size : Int) > 0 then (if wd ≤ (s.size : Int) then (if da.length < 1000 ∧ wr.length < 1000 then ((slices_Index_string_string.f k (if st < 0 then mi else pl) (s.extract 0 (wd : Int).toNat)).bind fun n => (if n < 0 then ((slices_Index_string_string.f k (if st < 0 then pl else mi) (s.extract 0 (wd : Int).toNat)).bind fun n2 => ((impl_stateBehind.f st (s.extract 0 (wd : Int).toNat)).bind fun t => (impl_DecodeBlocks.l0 k wd mi pl (s.extract (wd : Int).toNat s.size) t (da ++ [n2]) (wr ++ [(da.length : Int)])))) else ((impl_stateBehind.f st (s.extract 0 (wd : Int).toNat)).bind fun t => (impl_DecodeBlocks.l0 k wd mi pl (s.extract (wd : Int).toNat s.size) t (da ++ [n]) wr)))) else (none)) else (none)) else (some (da, wr, st, true))
def impl_DecodeBlocks.f (k : Nat) (a0_0 a0_1 : Int) (l0_2 l0_3 : List ByteArray) (a1 : Int) (a2 : ByteArray) : Option (List Int × List Int × Int × Bool) := (impl_ValidBlockCode.f k a0_0 a0_1 l0_2 l0_3).bind fun t1 => (if t1 = true then (if 1 ≤ a0_1 ∧ a0_1 ≤ 1000 then ((impl_isLineState.f a1).bind fun t2 => (if t2 = true then ((impl_IsBits.f a2).bind fun t3 => (if t3 = true then (if (a2.size : Int) % a0_1 = 0 then (impl_DecodeBlocks.l0 k a0_1 l0_2 l0_3 a2 a1 [] []) else (some (([] : List Int), ([] : List Int), (0 : Int), false))) else (some (([] : List Int), ([] : List Int), (0 : Int), false)))) else (some (([] : List Int), ([] : List Int), (0 : Int), false)))) else none) else (some (([] : List Int), ([] : List Int), (0 : Int), false)))
set_option maxHeartbeats 8000000 in
set_option maxRecDepth 100000 in
theorem impl_DecodeBlocks.calls (k : Nat) (a0_0 : Int) (a0_1 : Int) (A0_2 : Option Addr) (c0_2 : Nat) (l0_2 : List ByteArray) (A0_3 : Option Addr) (c0_3 : Nat) (l0_3 : List ByteArray) (a1 : Int) (a2 : ByteArray) (r1 r2 : List Int) (r3 : Int) (r4 : Bool) (w : World) (hr0_2 : Kd.C Kd.string w A0_2 l0_2.length l0_2) (hc0_2 : l0_2.length ≤ c0_2) (hr0_3 : Kd.C Kd.string w A0_3 l0_3.length l0_3) (hc0_3 : l0_3.length ≤ c0_3) (h : impl_DecodeBlocks.f k a0_0 a0_1 l0_2 l0_3 a1 a2 = some (r1, r2, r3, r4)) :
 Calls Tryz.prog 115 #[.agg #[.int .i64 a0_0, .int .i64 a0_1, .slice A0_2 l0_2.length c0_2, .slice A0_3 l0_3.length c0_3], .int .i64 a1, .string a2] w fun e w' => ∃ v0_ v1_ : Value, e = .returned (.tuple #[v0_, v1_, .int .i64 r3, .bool r4]) ∧ Kd.R (Kd.int .i64) 2 w' w.heap.size (fun k_ => some k_ ≠ (v1_ : Value).ownBlock) v0_ r1 ∧ Kd.R (Kd.int .i64) 2 w' w.heap.size (fun k_ => some k_ ≠ (v0_ : Value).ownBlock) v1_ r2 ∧ Below w.heap.size w w' := by
 have hu66 := Tryz.underlying26
 have HR0_2 := Aside0.mk hr0_2
 have HC0_2 := Aside0.mk hc0_2
 have HR0_3 := Aside0.mk hr0_3
 have HC0_3 := Aside0.mk hc0_3
 have HB := Aside0.mk (Below.refl w.heap.size w)
 clear hr0_2 hc0_2 hr0_3 hc0_3
 unfold impl_DecodeBlocks.f at h
 obtain ⟨t1, A1, h⟩ := Option.bind_eq_some_iff.mp h
 have A1_ := Aside0.mk A1
 clear A1
 cases t1 with
 | false =>
  replace h : some (([] : List Int), ([] : List Int), (0 : Int), false) = some (r1, r2, r3, r4) := h
  simp only [Option.some.injEq, Prod.mk.injEq] at h
  obtain ⟨rfl, rfl, rfl, rfl⟩ := h
  go_enter Tryz.func115, Tryz.ntmps115
  go_wp2_with (first | ((with_reducible refine gate_dst (N := 3) rfl ?_); (try (refine gate_guard (by rfl) ?_; dsimp only)); refine box_event ?hg (N := 3) ?hd (cs := #[.int .i64 a0_0, .int .i64 a0_1, .slice A0_2 l0_2.length c0_2, .slice A0_3 l0_3.length c0_3]) (t := 26) ?hr ?_; (case hd => rfl); (case hg => rfl); (case hr => exact Qg0_); intro gb hggb w3 hbox hb; have n0_ := Aside0.mk (below_step Qa0_ hb); have n1_ := Aside0.mk (hbox); clear HB; have HB := n0_; have BKgb := n1_; clear n0_ n1_; clear hb hbox hggb; have hczgb0 : w3.cell? ⟨gb, 0, none⟩ = some (.int .i64 a0_0) := (blk_cell BKgb.out 0).trans rfl; have hczgb1 : w3.cell? ⟨gb, 1, none⟩ = some (.int .i64 a0_1) := (blk_cell BKgb.out 1).trans rfl; have hczgb2 : w3.cell? ⟨gb, 2, none⟩ = some (.slice A0_2 l0_2.length c0_2) := (blk_cell BKgb.out 2).trans rfl; have hczgb3 : w3.cell? ⟨gb, 3, none⟩ = some (.slice A0_3 l0_3.length c0_3) := (blk_cell BKgb.out 3).trans rfl) | (go_at_call 28; (with_reducible refine (impl_ValidBlockCode.calls k a0_0 a0_1 A0_2 c0_2 l0_2 A0_3 c0_3 l0_3 false _ ?v1 ?v2 ?v3 ?v4 A1_.out).mono ?_); (case v1 => exact Kd.C_below HR0_2.out HB.out); (case v2 => exact HC0_2.out); (case v3 => exact Kd.C_below HR0_3.out HB.out); (case v4 => exact HC0_3.out); rintro e w4 ⟨rfl, hb4⟩; have HI := Aside0.mk (EbI.below ⟨BKgb.out, HB.out⟩ hb4); clear hb4; have hcw0 : w4.cell? ⟨gb, 0, none⟩ = some (.int .i64 a0_0) := (blk_cell HI.out.1 0).trans rfl; have hcw1 : w4.cell? ⟨gb, 1, none⟩ = some (.int .i64 a0_1) := (blk_cell HI.out.1 1).trans rfl))
  refine bodyPost_ret (v := .tuple #[.slice none 0 0, .slice none 0 0, .int .i64 0, .bool false]) (by simp [results, Tryz.results115, go_sem]) rfl ?_
  exact ⟨_, _, rfl, Kd.R_nil _ _ _ _ _, Kd.R_nil _ _ _ _ _, HI.out.2⟩
 | true =>
 rw [if_pos rfl] at h
 by_cases c0 : 1 ≤ a0_1 ∧ a0_1 ≤ 1000
 rotate_left
 ·rw [if_neg c0] at h
  cases h
 rw [if_pos c0] at h
 have c0b2 : (a0_1 == 0) = false := beq_eq_false_iff_ne.2 (by omega)
 have c0b3 : a0_1 ≠ 0 := by omega
 have c0b4 : 1 ≤ a0_1 := c0.1
 have c0b5 : a0_1 ≤ 1000 := c0.2
 have c0b6 : decide (0 ≤ a0_1) = true := decide_eq_true (by omega)
 have c0b7 := eq_true (show 0 ≤ a0_1 by omega)
 have CW := Aside0.mk c0
 clear c0
 obtain ⟨t2, A2, h⟩ := Option.bind_eq_some_iff.mp h
 have A2_ := Aside0.mk A2
 clear A2
 cases t2 with
 | false =>
  replace h : some (([] : List Int), ([] : List Int), (0 : Int), false) = some (r1, r2, r3, r4) := h
  simp only [Option.some.injEq, Prod.mk.injEq] at h
  obtain ⟨rfl, rfl, rfl, rfl⟩ := h
  go_enter Tryz.func115, Tryz.ntmps115
  go_wp2_with (first | ((with_reducible refine gate_dst (N := 3) rfl ?_); (try (refine gate_guard (by rfl) ?_; dsimp only)); refine box_event ?hg (N := 3) ?hd (cs := #[.int .i64 a0_0, .int .i64 a0_1, .slice A0_2 l0_2.length c0_2, .slice A0_3 l0_3.length c0_3]) (t := 26) ?hr ?_; (case hd => rfl); (case hg => rfl); (case hr => exact Qg0_); intro gb hggb w3 hbox hb; have n0_ := Aside0.mk (below_step Qa0_ hb); have n1_ := Aside0.mk (hbox); clear HB; have HB := n0_; have BKgb := n1_; clear n0_ n1_; clear hb hbox hggb; have hczgb0 : w3.cell? ⟨gb, 0, none⟩ = some (.int .i64 a0_0) := (blk_cell BKgb.out 0).trans rfl; have hczgb1 : w3.cell? ⟨gb, 1, none⟩ = some (.int .i64 a0_1) := (blk_cell BKgb.out 1).trans rfl; have hczgb2 : w3.cell? ⟨gb, 2, none⟩ = some (.slice A0_2 l0_2.length c0_2) := (blk_cell BKgb.out 2).trans rfl; have hczgb3 : w3.cell? ⟨gb, 3, none⟩ = some (.slice A0_3 l0_3.length c0_3) := (blk_cell BKgb.out 3).trans rfl) | (go_at_call 28; (with_reducible refine (impl_ValidBlockCode.calls k a0_0 a0_1 A0_2 c0_2 l0_2 A0_3 c0_3 l0_3 true _ ?v1 ?v2 ?v3 ?v4 A1_.out).mono ?_); (case v1 => exact Kd.C_below HR0_2.out HB.out); (case v2 => exact HC0_2.out); (case v3 => exact Kd.C_below HR0_3.out HB.out); (case v4 => exact HC0_3.out); rintro e w4 ⟨rfl, hb4⟩; have HI := Aside0.mk (EbI.below ⟨BKgb.out, HB.out⟩ hb4); clear hb4; have hcw0 : w4.cell? ⟨gb, 0, none⟩ = some (.int .i64 a0_0) := (blk_cell HI.out.1 0).trans rfl; have hcw1 : w4.cell? ⟨gb, 1, none⟩ = some (.int .i64 a0_1) := (blk_cell HI.out.1 1).trans rfl) | (go_at_call 29; (with_reducible refine (impl_isLineState.calls a1 false _ A2_.out).mono ?_); rintro e w5 ⟨rfl, ⟨nd2, rfl⟩⟩))
  refine bodyPost_ret (v := .tuple #[.slice none 0 0, .slice none 0 0, .int .i64 0, .bool false]) (by simp [results, Tryz.results115, go_sem]) rfl ?_
  exact ⟨_, _, rfl, Kd.R_nil _ _ _ _ _, Kd.R_nil _ _ _ _ _, (HI.out.drewN _).2⟩
 | true =>
 rw [if_pos rfl] at h
 obtain ⟨t3, A3, h⟩ := Option.bind_eq_some_iff.mp h
 have A3_ := Aside0.mk A3
 clear A3
 cases t3 with
 | false =>
  replace h : some (([] : List Int), ([] : List Int), (0 : Int), false) = some (r1, r2, r3, r4) := h
  simp only [Option.some.injEq, Prod.mk.injEq] at h
  obtain ⟨rfl, rfl, rfl, rfl⟩ := h
  go_enter Tryz.func115, Tryz.ntmps115
  go_wp2_with (first | ((with_reducible refine gate_dst (N := 3) rfl ?_); (try (refine gate_guard (by rfl) ?_; dsimp only)); refine box_event ?hg (N := 3) ?hd (cs := #[.int .i64 a0_0, .int .i64 a0_1, .slice A0_2 l0_2.length c0_2, .slice A0_3 l0_3.length c0_3]) (t := 26) ?hr ?_; (case hd => rfl); (case hg => rfl); (case hr => exact Qg0_); intro gb hggb w3 hbox hb; have n0_ := Aside0.mk (below_step Qa0_ hb); have n1_ := Aside0.mk (hbox); clear HB; have HB := n0_; have BKgb := n1_; clear n0_ n1_; clear hb hbox hggb; have hczgb0 : w3.cell? ⟨gb, 0, none⟩ = some (.int .i64 a0_0) := (blk_cell BKgb.out 0).trans rfl; have hczgb1 : w3.cell? ⟨gb, 1, none⟩ = some (.int .i64 a0_1) := (blk_cell BKgb.out 1).trans rfl; have hczgb2 : w3.cell? ⟨gb, 2, none⟩ = some (.slice A0_2 l0_2.length c0_2) := (blk_cell BKgb.out 2).trans rfl; have hczgb3 : w3.cell? ⟨gb, 3, none⟩ = some (.slice A0_3 l0_3.length c0_3) := (blk_cell BKgb.out 3).trans rfl) | (go_at_call 28; (with_reducible refine (impl_ValidBlockCode.calls k a0_0 a0_1 A0_2 c0_2 l0_2 A0_3 c0_3 l0_3 true _ ?v1 ?v2 ?v3 ?v4 A1_.out).mono ?_); (case v1 => exact Kd.C_below HR0_2.out HB.out); (case v2 => exact HC0_2.out); (case v3 => exact Kd.C_below HR0_3.out HB.out); (case v4 => exact HC0_3.out); rintro e w4 ⟨rfl, hb4⟩; have HI := Aside0.mk (EbI.below ⟨BKgb.out, HB.out⟩ hb4); clear hb4; have hcw0 : w4.cell? ⟨gb, 0, none⟩ = some (.int .i64 a0_0) := (blk_cell HI.out.1 0).trans rfl; have hcw1 : w4.cell? ⟨gb, 1, none⟩ = some (.int .i64 a0_1) := (blk_cell HI.out.1 1).trans rfl) | (go_at_call 29; (with_reducible refine (impl_isLineState.calls a1 true _ A2_.out).mono ?_); rintro e w5 ⟨rfl, ⟨nd2, rfl⟩⟩) | (go_at_call 35; (with_reducible refine (impl_IsBits.calls a2 false _ A3_.out).mono ?_); rintro e w6 ⟨rfl, hb6⟩; have HI2 := Aside0.mk (EbI.below (HI.out.drewN nd2) hb6); clear hb6; have hcx1 : w6.cell? ⟨gb, 1, none⟩ = some (.int .i64 a0_1) := (blk_cell HI2.out.1 1).trans rfl))
  refine bodyPost_ret (v := .tuple #[.slice none 0 0, .slice none 0 0, .int .i64 0, .bool false]) (by simp [results, Tryz.results115, go_sem]) rfl ?_
  exact ⟨_, _, rfl, Kd.R_nil _ _ _ _ _, Kd.R_nil _ _ _ _ _, HI2.out.2⟩
 | true =>
 rw [if_pos rfl] at h
 obtain ⟨jq, hjq⟩ : ∃ j_ : Int, (a2.size : Int) % a0_1 = j_ := ⟨_, rfl⟩
 rw [hjq] at h
 have hjqt : Int.tmod (a2.size : Int) a0_1 = jq := by rw [← hjq]; exact Int.tmod_eq_emod_of_nonneg (by omega)
 by_cases c4 : jq = 0
 rotate_left
 ·rw [if_neg c4] at h
  simp only [Option.some.injEq, Prod.mk.injEq] at h
  obtain ⟨rfl, rfl, rfl, rfl⟩ := h
  have c4b0 : (jq != 0) = true := bne_iff_ne.2 c4
  have c4b1 : (jq == 0) = false := beq_eq_false_iff_ne.2 c4
  clear c4
  go_enter Tryz.func115, Tryz.ntmps115
  go_wp2_with (first | ((with_reducible refine gate_dst (N := 3) rfl ?_); (try (refine gate_guard (by rfl) ?_; dsimp only)); refine box_event ?hg (N := 3) ?hd (cs := #[.int .i64 a0_0, .int .i64 a0_1, .slice A0_2 l0_2.length c0_2, .slice A0_3 l0_3.length c0_3]) (t := 26) ?hr ?_; (case hd => rfl); (case hg => rfl); (case hr => exact Qg0_); intro gb hggb w3 hbox hb; have n0_ := Aside0.mk (below_step Qa0_ hb); have n1_ := Aside0.mk (hbox); clear HB; have HB := n0_; have BKgb := n1_; clear n0_ n1_; clear hb hbox hggb; have hczgb0 : w3.cell? ⟨gb, 0, none⟩ = some (.int .i64 a0_0) := (blk_cell BKgb.out 0).trans rfl; have hczgb1 : w3.cell? ⟨gb, 1, none⟩ = some (.int .i64 a0_1) := (blk_cell BKgb.out 1).trans rfl; have hczgb2 : w3.cell? ⟨gb, 2, none⟩ = some (.slice A0_2 l0_2.length c0_2) := (blk_cell BKgb.out 2).trans rfl; have hczgb3 : w3.cell? ⟨gb, 3, none⟩ = some (.slice A0_3 l0_3.length c0_3) := (blk_cell BKgb.out 3).trans rfl) | (go_at_call 28; (with_reducible refine (impl_ValidBlockCode.calls k a0_0 a0_1 A0_2 c0_2 l0_2 A0_3 c0_3 l0_3 true _ ?v1 ?v2 ?v3 ?v4 A1_.out).mono ?_); (case v1 => exact Kd.C_below HR0_2.out HB.out); (case v2 => exact HC0_2.out); (case v3 => exact Kd.C_below HR0_3.out HB.out); (case v4 => exact HC0_3.out); rintro e w4 ⟨rfl, hb4⟩; have HI := Aside0.mk (EbI.below ⟨BKgb.out, HB.out⟩ hb4); clear hb4; have hcw0 : w4.cell? ⟨gb, 0, none⟩ = some (.int .i64 a0_0) := (blk_cell HI.out.1 0).trans rfl; have hcw1 : w4.cell? ⟨gb, 1, none⟩ = some (.int .i64 a0_1) := (blk_cell HI.out.1 1).trans rfl) | (go_at_call 29; (with_reducible refine (impl_isLineState.calls a1 true _ A2_.out).mono ?_); rintro e w5 ⟨rfl, ⟨nd2, rfl⟩⟩) | (go_at_call 35; (with_reducible refine (impl_IsBits.calls a2 true _ A3_.out).mono ?_); rintro e w6 ⟨rfl, hb6⟩; have HI2 := Aside0.mk (EbI.below (HI.out.drewN nd2) hb6); clear hb6; have hcx1 : w6.cell? ⟨gb, 1, none⟩ = some (.int .i64 a0_1) := (blk_cell HI2.out.1 1).trans rfl))
  refine bodyPost_ret (v := .tuple #[.slice none 0 0, .slice none 0 0, .int .i64 0, .bool false]) (by simp [results, Tryz.results115, go_sem]) rfl ?_
  exact ⟨_, _, rfl, Kd.R_nil _ _ _ _ _, Kd.R_nil _ _ _ _ _, HI2.out.2⟩
 rw [if_pos c4] at h
 have c4b0 : (jq != 0) = false := by rw [c4]; rfl
 have c4b1 : (jq == 0) = true := by rw [c4]; rfl
 clear c4
 have H' := Aside0.mk h
 clear h
 go_enter Tryz.func115, Tryz.ntmps115
 go_wp2_with (first | ((with_reducible refine gate_dst (N := 3) rfl ?_); (try (refine gate_guard (by rfl) ?_; dsimp only)); refine box_event ?hg (N := 3) ?hd (cs := #[.int .i64 a0_0, .int .i64 a0_1, .slice A0_2 l0_2.length c0_2, .slice A0_3 l0_3.length c0_3]) (t := 26) ?hr ?_; (case hd => rfl); (case hg => rfl); (case hr => exact Qg0_); intro gb hggb w3 hbox hb; have n0_ := Aside0.mk (below_step Qa0_ hb); have n1_ := Aside0.mk (hbox); clear HB; have HB := n0_; have BKgb := n1_; clear n0_ n1_; clear hb hbox hggb; have hczgb0 : w3.cell? ⟨gb, 0, none⟩ = some (.int .i64 a0_0) := (blk_cell BKgb.out 0).trans rfl; have hczgb1 : w3.cell? ⟨gb, 1, none⟩ = some (.int .i64 a0_1) := (blk_cell BKgb.out 1).trans rfl; have hczgb2 : w3.cell? ⟨gb, 2, none⟩ = some (.slice A0_2 l0_2.length c0_2) := (blk_cell BKgb.out 2).trans rfl; have hczgb3 : w3.cell? ⟨gb, 3, none⟩ = some (.slice A0_3 l0_3.length c0_3) := (blk_cell BKgb.out 3).trans rfl) | (go_at_call 28; (with_reducible refine (impl_ValidBlockCode.calls k a0_0 a0_1 A0_2 c0_2 l0_2 A0_3 c0_3 l0_3 true _ ?v1 ?v2 ?v3 ?v4 A1_.out).mono ?_); (case v1 => exact Kd.C_below HR0_2.out HB.out); (case v2 => exact HC0_2.out); (case v3 => exact Kd.C_below HR0_3.out HB.out); (case v4 => exact HC0_3.out); rintro e w4 ⟨rfl, hb4⟩; have HI := Aside0.mk (EbI.below ⟨BKgb.out, HB.out⟩ hb4); clear hb4; have hcw0 : w4.cell? ⟨gb, 0, none⟩ = some (.int .i64 a0_0) := (blk_cell HI.out.1 0).trans rfl; have hcw1 : w4.cell? ⟨gb, 1, none⟩ = some (.int .i64 a0_1) := (blk_cell HI.out.1 1).trans rfl) | (go_at_call 29; (with_reducible refine (impl_isLineState.calls a1 true _ A2_.out).mono ?_); rintro e w5 ⟨rfl, ⟨nd2, rfl⟩⟩) | (go_at_call 35; (with_reducible refine (impl_IsBits.calls a2 true _ A3_.out).mono ?_); rintro e w6 ⟨rfl, hb6⟩; have HI2 := Aside0.mk (EbI.below (HI.out.drewN nd2) hb6); clear hb6; have hcx1 : w6.cell? ⟨gb, 1, none⟩ = some (.int .i64 a0_1) := (blk_cell HI2.out.1 1).trans rfl) | ((with_reducible refine gate_dst (N := 38) rfl ?_); refine Kd.R_lit (Kd.int .i64) (w0 := w) w.heap.size 2 ?hg (N := 38) ?hd (xs := ([] : List Int)) (inner := []) (ok := fun _ => True) (okp := fun _ => True) ?hr ?hp (fun _ hk => hk) trivial ?hB ?hS (by simp) ?_; (case hd => rfl); (case hg => rfl); (case hr => exact Qg0_); (case hp => exact (Reps.none _ _)); (case hB => exact HI2.out.2); (case hS => exact HI2.out.2.size); intro v38 w38 ho hb hg_ hnew_; have HI3 := Aside0.mk (show EbI w w38 gb _ from ⟨(hg_.block gb (blk_lt HI2.out.1) (by simp)).trans HI2.out.1, hb⟩); have HD := Aside0.mk ho; clear ho hb hg_ hnew_) | ((with_reducible refine gate_dst (N := 39) rfl ?_); refine Kd.R_lit (Kd.int .i64) (w0 := w) w.heap.size 2 ?hg (N := 39) ?hd (xs := ([] : List Int)) (inner := []) (ok := fun _ => True) (okp := fun _ => True) ?hr ?hp (fun _ hk => hk) trivial ?hB ?hS (by simp) ?_; (case hd => rfl); (case hg => rfl); (case hr => exact Qg0_); (case hp => exact (Reps.none _ _)); (case hB => exact HI3.out.2); (case hS => exact HI3.out.2.size); intro v39 w39 ho hb hg_ hnew_; have HJ := Aside0.mk (show DbI w w39 gb _ v38 v39 [] [] from ⟨⟨(hg_.block gb (blk_lt HI3.out.1) (by simp)).trans HI3.out.1, hb⟩, db_row HD.out (fun k hk => hg_.block k (db_lt HD.out k hk) (by simp)), ho, fun k h1 h2 => by obtain ⟨b, h3, h4⟩ := hnew_; rw [h2] at h3; cases h3; have := db_lt HD.out k h1; omega⟩); clear HD HI3 ho hb hg_ hnew_))
 go_loopg [2, 10, 11, 12] k (fun kq v2 v10 v11 v12 w' => ∃ (s : ByteArray) (st : Int) (da wr : List Int), v2 = .string s ∧ v12 = .int .i64 st ∧ Aside0 (impl_DecodeBlocks.l0 kq a0_1 l0_2 l0_3 s st da wr = some (r1, r2, r3, r4)) ∧ Aside0 (kq ≤ k) ∧ Aside0 (DbI w w' gb #[.int .i64 a0_0, .int .i64 a0_1, .slice A0_2 l0_2.length c0_2, .slice A0_3 l0_3.length c0_3] v10 v11 da wr))
 case atStart => exact ⟨a2, a1, [], [], Qc0_, Qc0_, H', ⟨Nat.le_refl _⟩, HJ⟩
 case round =>
  clear H' HJ hczgb0 hczgb1 hczgb2 hczgb3 hcw0 hcw1 hcx1 c0b2 c0b3 hjq hjqt c4b0 c4b1 HB HI HI2 BKgb A1_ A2_ A3_
  obtain ⟨s, st, da, wr_, rfl, rfl, HA, HK1, HI⟩ := hrel
  cases gk with
  | zero => exact absurd HA.out (by simp [impl_DecodeBlocks.l0])
  | succ k1 =>
   have H := HA.out
   clear HA
   simp only [impl_DecodeBlocks.l0] at H
   by_cases d1 : (s.size : Int) > 0
   rotate_left
   ·rw [if_neg d1] at H
    simp only [Option.some.injEq, Prod.mk.injEq] at H
    obtain ⟨rfl, rfl, rfl, rfl⟩ := H
    have d1b0 : decide (0 < (s.size : Int)) = false := decide_eq_false d1
    have d1b1 : decide (0 < s.size) = false := decide_eq_false (by omega)
    clear d1
    go_wp2
    refine bodyPost_ret (v := .tuple #[u10, u11, .int .i64 st, .bool true]) (by simp [results, Tryz.results115, go_sem]) rfl ?_
    exact ⟨_, _, rfl, Kd.R_of_own (Kd.own_of_R HI.out.2.1) (fun k e => fun e2 => HI.out.2.2.2 k e e2.symm), Kd.R_of_own (Kd.own_of_R HI.out.2.2.1) (fun k e => fun e2 => HI.out.2.2.2 k e2.symm e), HI.out.1.2⟩
   rw [if_pos d1] at H
   have d1b0 : decide (0 < (s.size : Int)) = true := decide_eq_true d1
   have d1b1 : decide (0 < s.size) = true := decide_eq_true (by omega)
   clear d1
   by_cases d2 : a0_1 ≤ (s.size : Int)
   rotate_left
   ·rw [if_neg d2] at H
    exact absurd H (by simp)
   rw [if_pos d2] at H
   have d2b0 : decide (a0_1 ≤ (s.size : Int)) = true := decide_eq_true d2
   have d2b1 := eq_true d2
   clear d2
   by_cases d3 : da.length < 1000 ∧ wr_.length < 1000
   rotate_left
   ·rw [if_neg d3] at H
    exact absurd H (by simp)
   rw [if_pos d3] at H
   have HL := Aside0.mk d3
   clear d3
   obtain ⟨x, hx⟩ : ∃ x : ByteArray, x = s.extract 0 (a0_1 : Int).toNat := ⟨_, rfl⟩
   rw [← hx] at H
   have hcv0 : wr.cell? ⟨gb, 0, none⟩ = some (.int .i64 a0_0) := (blk_cell HI.out.1.1 0).trans rfl
   have hcv1 : wr.cell? ⟨gb, 1, none⟩ = some (.int .i64 a0_1) := (blk_cell HI.out.1.1 1).trans rfl
   have hcv2 : wr.cell? ⟨gb, 2, none⟩ = some (.slice A0_2 l0_2.length c0_2) := (blk_cell HI.out.1.1 2).trans rfl
   have hcv3 : wr.cell? ⟨gb, 3, none⟩ = some (.slice A0_3 l0_3.length c0_3) := (blk_cell HI.out.1.1 3).trans rfl
   have hvd := HI.out.2.1
   obtain ⟨Ad, cd, ed⟩ := Kd.R_slice HI.out.2.1
   subst ed
   have hl10 := (Kd.R_reads' HI.out.2.1).1
   clear hvd
   have HX := Aside0.mk hx
   clear hx
   by_cases hst : st < 0
   ·simp only [if_pos hst] at H
    obtain ⟨n, A1, H⟩ := Option.bind_eq_some_iff.mp H
    have A4_ := Aside0.mk A1
    clear A1
    by_cases d4 : n < 0
    ·rw [if_pos d4] at H
     have d4b0 : decide (n < 0) = true := decide_eq_true d4
     clear d4
     obtain ⟨n2, A1, H⟩ := Option.bind_eq_some_iff.mp H
     have A5_ := Aside0.mk A1
     clear A1
     obtain ⟨t, A1, H⟩ := Option.bind_eq_some_iff.mp H
     have A6_ := Aside0.mk A1
     clear A1
     have H' := Aside0.mk H
     clear H
     go_wp2_with (first | (go_at_call 30; refine (bw_minus a0_0 a0_1 _ _ st _ hst rfl rfl).mono ?_; rintro e w7 ⟨rfl, hb7⟩; have HI2 := Aside0.mk (HI.out.below hb7); clear hb7; (try rw [← HX.out])) | (go_at_call 59; (with_reducible refine (slices_Index_string_string.calls k1 A0_2 c0_2 l0_2 x n _ ?s1 ?s2 A4_.out).mono ?_); (case s1 => exact Kd.C_below HR0_2.out HI2.out.1.2); (case s2 => exact HC0_2.out); rintro e w8 ⟨rfl, ⟨nd, rfl⟩⟩; have HI3 := Aside0.mk (HI2.out.drewN nd); clear HI2) | (go_at_call 59; (with_reducible refine (slices_Index_string_string.calls k1 A0_3 c0_3 l0_3 x n2 _ ?s1 ?s2 A5_.out).mono ?_); (case s1 => exact Kd.C_below HR0_3.out HI4.out.1.2); (case s2 => exact HC0_3.out); rintro e w9 ⟨rfl, ⟨nd, rfl⟩⟩; have HI5 := Aside0.mk (HI4.out.drewN nd); clear HI4) | ((with_reducible refine gate_builtin (b := .append) (xs := #[.tmp 63, .tmp 66]) rfl ?_); at_builtin; refine Kd.R_append (Kd.int .i64) (w0 := w) w.heap.size rfl (.tmp 63) (.tmp 66) 29 2 (.int .i64 0) 8 rfl Tryz.underlying29 info2 rfl (by decide) (by omega) u11 wr_ (da.length : Int) [.int .i64 (da.length : Int)] (fun _ => True) (fun _ => False) rfl rfl ?aP (fun _ hk => hk.elim) (fun _ _ => trivial) ?aO ?aB ?aS ?aL ?_; (case aP => exact rfl); (case aB => exact HI3.out.1.2); (case aO => exact HI3.out.2.2.1); (case aS => exact HI3.out.1.2.size); (case aL => have := HL.out; omega); intro v67 w67 ho hb hg_ hat_; have HI4 := Aside0.mk (HI3.out.wrong ho hb hg_ hat_); clear ho hb hg_ hat_ HI3) | ((with_reducible refine gate_builtin (b := .append) (xs := #[.tmp 71, .tmp 73]) rfl ?_); at_builtin; refine Kd.R_append (Kd.int .i64) (w0 := w) w.heap.size rfl (.tmp 71) (.tmp 73) 29 2 (.int .i64 0) 8 rfl Tryz.underlying29 info2 rfl (by decide) (by omega) (.slice Ad da.length cd) da n2 [.int .i64 n2] (fun _ => True) (fun _ => False) rfl rfl ?aP (fun _ hk => hk.elim) (fun _ _ => trivial) ?aO ?aB ?aS ?aL ?_; (case aP => exact rfl); (case aB => exact HI5.out.1.2); (case aO => exact HI5.out.2.1); (case aS => exact HI5.out.1.2.size); (case aL => have := HL.out; omega); intro v74 w74 ho hb hg_ hat_; have HI6 := Aside0.mk (HI5.out.data ho hb hg_ hat_); clear ho hb hg_ hat_ HI5) | (go_at_call 31; (with_reducible refine (impl_stateBehind.calls st x t _ A6_.out).mono ?_); rintro e w10 ⟨rfl, ⟨nd, rfl⟩⟩))
     go_roundg k1
     case measure => have := HK1.out; omega
     case rel => exact ⟨_, t, (da ++ [n2]), (wr_ ++ [(da.length : Int)]), Qc0_, Qc0_, H', ⟨Qs0_⟩, ⟨HI6.out.drewN _⟩⟩
    ·rw [if_neg d4] at H
     have d4b0 : decide (n < 0) = false := decide_eq_false d4
     clear d4
     obtain ⟨t, A1, H⟩ := Option.bind_eq_some_iff.mp H
     have A6_ := Aside0.mk A1
     clear A1
     have H' := Aside0.mk H
     clear H
     go_wp2_with (first | (go_at_call 30; refine (bw_minus a0_0 a0_1 _ _ st _ hst rfl rfl).mono ?_; rintro e w7 ⟨rfl, hb7⟩; have HI2 := Aside0.mk (HI.out.below hb7); clear hb7; (try rw [← HX.out])) | (go_at_call 59; (with_reducible refine (slices_Index_string_string.calls k1 A0_2 c0_2 l0_2 x n _ ?s1 ?s2 A4_.out).mono ?_); (case s1 => exact Kd.C_below HR0_2.out HI2.out.1.2); (case s2 => exact HC0_2.out); rintro e w8 ⟨rfl, ⟨nd, rfl⟩⟩; have HI3 := Aside0.mk (HI2.out.drewN nd); clear HI2) | ((with_reducible refine gate_builtin (b := .append) (xs := #[.tmp 71, .tmp 73]) rfl ?_); at_builtin; refine Kd.R_append (Kd.int .i64) (w0 := w) w.heap.size rfl (.tmp 71) (.tmp 73) 29 2 (.int .i64 0) 8 rfl Tryz.underlying29 info2 rfl (by decide) (by omega) (.slice Ad da.length cd) da n [.int .i64 n] (fun _ => True) (fun _ => False) rfl rfl ?aP (fun _ hk => hk.elim) (fun _ _ => trivial) ?aO ?aB ?aS ?aL ?_; (case aP => exact rfl); (case aB => exact HI3.out.1.2); (case aO => exact HI3.out.2.1); (case aS => exact HI3.out.1.2.size); (case aL => have := HL.out; omega); intro v74 w74 ho hb hg_ hat_; have HI6 := Aside0.mk (HI3.out.data ho hb hg_ hat_); clear ho hb hg_ hat_ HI3) | (go_at_call 31; (with_reducible refine (impl_stateBehind.calls st x t _ A6_.out).mono ?_); rintro e w10 ⟨rfl, ⟨nd, rfl⟩⟩))
     go_roundg k1
     case measure => have := HK1.out; omega
     case rel => exact ⟨_, t, (da ++ [n]), wr_, Qc0_, Qc0_, H', ⟨Qs0_⟩, ⟨HI6.out.drewN _⟩⟩
   ·simp only [if_neg hst] at H
    obtain ⟨n, A1, H⟩ := Option.bind_eq_some_iff.mp H
    have A4_ := Aside0.mk A1
    clear A1
    by_cases d4 : n < 0
    ·rw [if_pos d4] at H
     have d4b0 : decide (n < 0) = true := decide_eq_true d4
     clear d4
     obtain ⟨n2, A1, H⟩ := Option.bind_eq_some_iff.mp H
     have A5_ := Aside0.mk A1
     clear A1
     obtain ⟨t, A1, H⟩ := Option.bind_eq_some_iff.mp H
     have A6_ := Aside0.mk A1
     clear A1
     have H' := Aside0.mk H
     clear H
     go_wp2_with (first | (go_at_call 30; refine (bw_plus a0_0 a0_1 _ _ st _ hst rfl rfl).mono ?_; rintro e w7 ⟨rfl, hb7⟩; have HI2 := Aside0.mk (HI.out.below hb7); clear hb7; (try rw [← HX.out])) | (go_at_call 59; (with_reducible refine (slices_Index_string_string.calls k1 A0_3 c0_3 l0_3 x n _ ?s1 ?s2 A4_.out).mono ?_); (case s1 => exact Kd.C_below HR0_3.out HI2.out.1.2); (case s2 => exact HC0_3.out); rintro e w8 ⟨rfl, ⟨nd, rfl⟩⟩; have HI3 := Aside0.mk (HI2.out.drewN nd); clear HI2) | (go_at_call 59; (with_reducible refine (slices_Index_string_string.calls k1 A0_2 c0_2 l0_2 x n2 _ ?s1 ?s2 A5_.out).mono ?_); (case s1 => exact Kd.C_below HR0_2.out HI4.out.1.2); (case s2 => exact HC0_2.out); rintro e w9 ⟨rfl, ⟨nd, rfl⟩⟩; have HI5 := Aside0.mk (HI4.out.drewN nd); clear HI4) | ((with_reducible refine gate_builtin (b := .append) (xs := #[.tmp 63, .tmp 66]) rfl ?_); at_builtin; refine Kd.R_append (Kd.int .i64) (w0 := w) w.heap.size rfl (.tmp 63) (.tmp 66) 29 2 (.int .i64 0) 8 rfl Tryz.underlying29 info2 rfl (by decide) (by omega) u11 wr_ (da.length : Int) [.int .i64 (da.length : Int)] (fun _ => True) (fun _ => False) rfl rfl ?aP (fun _ hk => hk.elim) (fun _ _ => trivial) ?aO ?aB ?aS ?aL ?_; (case aP => exact rfl); (case aB => exact HI3.out.1.2); (case aO => exact HI3.out.2.2.1); (case aS => exact HI3.out.1.2.size); (case aL => have := HL.out; omega); intro v67 w67 ho hb hg_ hat_; have HI4 := Aside0.mk (HI3.out.wrong ho hb hg_ hat_); clear ho hb hg_ hat_ HI3) | ((with_reducible refine gate_builtin (b := .append) (xs := #[.tmp 71, .tmp 73]) rfl ?_); at_builtin; refine Kd.R_append (Kd.int .i64) (w0 := w) w.heap.size rfl (.tmp 71) (.tmp 73) 29 2 (.int .i64 0) 8 rfl Tryz.underlying29 info2 rfl (by decide) (by omega) (.slice Ad da.length cd) da n2 [.int .i64 n2] (fun _ => True) (fun _ => False) rfl rfl ?aP (fun _ hk => hk.elim) (fun _ _ => trivial) ?aO ?aB ?aS ?aL ?_; (case aP => exact rfl); (case aB => exact HI5.out.1.2); (case aO => exact HI5.out.2.1); (case aS => exact HI5.out.1.2.size); (case aL => have := HL.out; omega); intro v74 w74 ho hb hg_ hat_; have HI6 := Aside0.mk (HI5.out.data ho hb hg_ hat_); clear ho hb hg_ hat_ HI5) | (go_at_call 31; (with_reducible refine (impl_stateBehind.calls st x t _ A6_.out).mono ?_); rintro e w10 ⟨rfl, ⟨nd, rfl⟩⟩))
     go_roundg k1
     case measure => have := HK1.out; omega
     case rel => exact ⟨_, t, (da ++ [n2]), (wr_ ++ [(da.length : Int)]), Qc0_, Qc0_, H', ⟨Qs0_⟩, ⟨HI6.out.drewN _⟩⟩
    ·rw [if_neg d4] at H
     have d4b0 : decide (n < 0) = false := decide_eq_false d4
     clear d4
     obtain ⟨t, A1, H⟩ := Option.bind_eq_some_iff.mp H
     have A6_ := Aside0.mk A1
     clear A1
     have H' := Aside0.mk H
     clear H
     go_wp2_with (first | (go_at_call 30; refine (bw_plus a0_0 a0_1 _ _ st _ hst rfl rfl).mono ?_; rintro e w7 ⟨rfl, hb7⟩; have HI2 := Aside0.mk (HI.out.below hb7); clear hb7; (try rw [← HX.out])) | (go_at_call 59; (with_reducible refine (slices_Index_string_string.calls k1 A0_3 c0_3 l0_3 x n _ ?s1 ?s2 A4_.out).mono ?_); (case s1 => exact Kd.C_below HR0_3.out HI2.out.1.2); (case s2 => exact HC0_3.out); rintro e w8 ⟨rfl, ⟨nd, rfl⟩⟩; have HI3 := Aside0.mk (HI2.out.drewN nd); clear HI2) | ((with_reducible refine gate_builtin (b := .append) (xs := #[.tmp 71, .tmp 73]) rfl ?_); at_builtin; refine Kd.R_append (Kd.int .i64) (w0 := w) w.heap.size rfl (.tmp 71) (.tmp 73) 29 2 (.int .i64 0) 8 rfl Tryz.underlying29 info2 rfl (by decide) (by omega) (.slice Ad da.length cd) da n [.int .i64 n] (fun _ => True) (fun _ => False) rfl rfl ?aP (fun _ hk => hk.elim) (fun _ _ => trivial) ?aO ?aB ?aS ?aL ?_; (case aP => exact rfl); (case aB => exact HI3.out.1.2); (case aO => exact HI3.out.2.1); (case aS => exact HI3.out.1.2.size); (case aL => have := HL.out; omega); intro v74 w74 ho hb hg_ hat_; have HI6 := Aside0.mk (HI3.out.data ho hb hg_ hat_); clear ho hb hg_ hat_ HI3) | (go_at_call 31; (with_reducible refine (impl_stateBehind.calls st x t _ A6_.out).mono ?_); rintro e w10 ⟨rfl, ⟨nd, rfl⟩⟩))
     go_roundg k1
     case measure => have := HK1.out; omega
     case rel => exact ⟨_, t, (da ++ [n]), wr_, Qc0_, Qc0_, H', ⟨Qs0_⟩, ⟨HI6.out.drewN _⟩⟩
end Go.Proofs.YtdnjebnmianogaaGreatDoor.QFnTop
