/- Made small by wip/pack.py: lemmas and contracts that the law's row leans on. -/
import Derived.Test.YtdaeioklcilipaaGreatDoorZFnConsole27
import Derived.Test.YtdaeioklcilipaaGreatDoorZFnConsole28
import Derived.Test.YtdaeioklcilipaaGreatDoorZFnConsole29
namespace Go.Proofs.YtdaeioklcilipaaGreatDoor.QFnConsole
open Go.RowKit Go.Proofs.YtdaeioklcilipaaGreatDoorW.PrintWords Go.Proofs.YtdaeioklcilipaaGreatDoorW.PrintLast Go.Proofs.YtdaeioklcilipaaGreatDoorW.PrintMore
attribute [local go_sem] max2_int min2_int max_two min_two max_three min_three max_four min_four
set_option linter.unusedVariables false
set_option linter.unusedSimpArgs false
mutual
def spec_l01Dec.l0 : Nat → Int → List Int → Int → Option (ByteArray)
 | 0, _, _, _ => none
 | k + 1, x0, x3, x4 => if x4 = 0 then (if x0 < 0 then (if x3.length < 140737488355328 then (spec_l01Dec.j1 k (x3 ++ [45])) else (none)) else (spec_l01Dec.j1 k x3)) else (if (Int.tmod x4 10) < 0 then (if x3.length < 140737488355328 then (spec_l01Dec.l0 k x0 (x3 ++ [(wrap64 (48 + (wrap64 (-(Int.tmod x4 10))))) % 256]) (wrap64 (Int.tdiv x4 10))) else (none)) else (if x3.length < 140737488355328 then (spec_l01Dec.l0 k x0 (x3 ++ [(wrap64 (48 + (Int.tmod x4 10))) % 256]) (wrap64 (Int.tdiv x4 10))) else (none)))
def spec_l01Dec.j1 : Nat → List Int → Option (ByteArray)
 | 0, _ => none
 | k + 1, x3 => spec_l01Dec.l1 k x3 (([] : List Int)) (wrap64 ((x3.length : Int) - 1))
def spec_l01Dec.l1 : Nat → List Int → List Int → Int → Option (ByteArray)
 | 0, _, _, _ => none
 | k + 1, x3, x6, x7 => if x7 ≥ 0 then (if 0 ≤ x7 then (if x7 < (x3.length : Int) then (if x6.length < 140737488355328 then (spec_l01Dec.l1 k x3 (x6 ++ [rd x3 x7]) (wrap64 (x7 - 1))) else (none)) else (none)) else (none)) else (some (strOfNums x6))
end
def spec_l01Dec.f (k : Nat) (a0 : Int) : Option (ByteArray) := if a0 = 0 then (some (⟨#[48]⟩ : ByteArray)) else (spec_l01Dec.l0 k a0 (([] : List Int)) a0)
set_option maxHeartbeats 8000000 in
set_option maxRecDepth 100000 in
theorem spec_l01Dec.calls (k : Nat) (a0 : Int) (r : ByteArray) (w : World) (h : spec_l01Dec.f k a0 = some r) :
 Calls Tryz.prog 27 #[.int .i64 a0] w fun e w' => e = .returned (.string r) ∧ Below w.heap.size w w' := by
 have HB := Aside0.mk (Below.refl w.heap.size w)
 have H : (if a0 = 0 then (some (⟨#[48]⟩ : ByteArray)) else (spec_l01Dec.l0 k a0 (([] : List Int)) a0)) = some r := h
 clear h
 by_cases c2 : a0 = 0
 ·rw [if_pos c2] at H
  have c2b0 := beq_iff_eq.mpr c2
  have c2b1 := bne_eq_false_iff_eq.mpr c2
  clear c2
  obtain rfl := Option.some.inj H
  go_enter Tryz.func27, Tryz.ntmps27
  go_wp2
  go_ret
  exact ⟨Qh0_, Qa0_⟩
 ·rw [if_neg c2] at H
  have c2b0 := beq_eq_false_iff_ne.mpr c2
  have c2b1 := bne_iff_ne.mpr c2
  obtain ⟨y142, hy142⟩ : ∃ y_ : List Int, y_ = (([] : List Int)) := ⟨_, rfl⟩
  replace H : (spec_l01Dec.l0 k a0 y142 a0) = some r := by first | (rw [hy142]; with_reducible exact H) | (have H2_ := (Option.bind_some _ _).symm.trans H; rw [hy142]; with_reducible exact H2_) | (have H2_ := (Option.bind_some _ _).symm.trans H; with_reducible exact H2_) | with_reducible exact H | (rw [hy142]; exact H) | exact H
  have Ny142 := Aside0.mk hy142
  clear hy142
  have H' := Aside0.mk H
  clear H
  go_enter Tryz.func27, Tryz.ntmps27
  go_wp2_with (first | ((with_reducible refine gate_dst (N := 10) rfl ?_); refine Kd.R_lit (Kd.int .u8) _ 5 ?hg (N := 10) ?hd (xs := ([] : List Int)) (inner := []) (ok := fun _ => True) (okp := fun _ => True) ?hr ?hp (fun _ hk => hk) trivial (Below.refl _ _) (Nat.le_refl _) (by simp) ?_; (case hd => rfl); (case hg => rfl); (case hr => exact Qj0_); (case hp => exact (Reps.none _ _)); intro v143 w3 ho4 hb hg_ hnew_; clear hg_ hnew_; (first | rw [← Ny142.out] at ho4 | (simp only [Int.reduceToNat] at ho4; rw [← Ny142.out] at ho4)); have n0_ := Aside0.mk (Kd.R_lower ho4 (below_size Qa0_)); have n1_ := Aside0.mk (below_step Qa0_ hb); clear HB; have HO144 := n0_; have HB := n1_; clear n0_ n1_; clear hb ho4))
  go_loopg [3, 4] k (fun kq v3 v4 w' => ∃ (x3_1 : List Int) (x4_1 : Int), v4 = .int .i64 x4_1 ∧ Aside0 (spec_l01Dec.l0 kq a0 x3_1 x4_1 = some r) ∧ Aside0 (kq ≤ k) ∧ Aside0 (Kd.R (Kd.int .u8) 5 w' w.heap.size (fun _ => True) v3 x3_1) ∧ Aside0 (Below w.heap.size w w'))
  case atStart => exact ⟨(y142), (a0), Qf0_, H', ⟨Nat.le_refl _⟩, ⟨Qr_ HO144.out⟩, ⟨Qa0_⟩⟩
  case round =>
   clear H'
   try clear c2
   try clear c2b0
   try clear c2b1
   try clear p2
   obtain ⟨x3_1, x4_1, rfl, HA, HK1, HO_3, HB⟩ := hrel
   cases gk with
   | zero => exact absurd HA.out (by simp [spec_l01Dec.l0])
   | succ k1 =>
    have H := HA.out
    clear HA
    simp only [spec_l01Dec.l0] at H
    by_cases c5 : x4_1 = 0
    ·rw [if_pos c5] at H
     have c5b0 := beq_iff_eq.mpr c5
     have c5b1 := bne_eq_false_iff_eq.mpr c5
     clear c5
     have HC6 := Aside0.mk H
     clear H
     go_upto_if 29 with (fail)
     go_cut [3] (fun v3 wc => ∃ (kq : Nat) (x3_5 : List Int), Aside0 (spec_l01Dec.j1 kq x3_5 = some r) ∧ Aside0 (kq ≤ k1) ∧ Aside0 (Kd.R (Kd.int .u8) 5 wc w.heap.size (fun _ => True) v3 x3_5) ∧ Aside0 (Below w.heap.size w wc))
     case first =>
      have H := HC6.out
      clear HC6
      by_cases c7 : a0 < 0
      ·rw [if_pos c7] at H
       have c7b0 := decide_eq_true c7
       clear c7
       (first | rw [c7b0] | (simp only [i64_w, i32_w]; rw [c7b0]) | skip)
       by_cases c8 : x3_1.length < 140737488355328
       ·rw [if_pos c8] at H
        have LMc8 := Aside0.mk c8
        clear c8
        obtain ⟨y151, hy151⟩ : ∃ y_ : List Int, y_ = (x3_1 ++ [45]) := ⟨_, rfl⟩
        replace H : (spec_l01Dec.j1 k1 y151) = some r := by first | (rw [hy151]; with_reducible exact H) | (have H2_ := (Option.bind_some _ _).symm.trans H; rw [hy151]; with_reducible exact H2_) | (have H2_ := (Option.bind_some _ _).symm.trans H; with_reducible exact H2_) | with_reducible exact H | (rw [hy151]; exact H) | exact H
        have Ny151 := Aside0.mk hy151
        clear hy151
        have H' := Aside0.mk H
        clear H
        go_wp2_with (first | ((with_reducible refine gate_builtin (b := .append) (xs := #[.tmp 30, .tmp 31]) rfl ?_); at_builtin; refine Kd.R_append (Kd.int .u8) (w0 := w) w.heap.size rfl (.tmp 30) (.tmp 31) 22 5 (.int .u8 0) 1 rfl Tryz.underlying22 info5 rfl (by decide) (by omega) u3 x3_1 45 [.int .u8 45] (fun _ => True) (fun _ => False) rfl rfl ?aP (fun _ hk => hk.elim) ?aF ?aO ?aB ?aS ?aL ?_; (case aP => exact rfl); (case aB => exact Qa0_); (case aF => exact (fun _ _ => trivial)); (case aO => exact (Qr_ HO_3.out)); (case aS => exact (below_size Qa0_)); (case aL => have := LMc8.out; omega); intro v152 w9 ho hb hg hat; rw [← Ny151.out] at ho; have n0_ := Aside0.mk (hb); have n1_ := Aside0.mk (ho); clear HB; clear HO_3; have HB := n0_; have HO153 := n1_; clear n0_ n1_; clear ho hb hg hat))
        go_meet
        case rel => exact ⟨_, (y151), H', ⟨by have := HK1.out; first | omega | exact Nat.le_refl _⟩, ⟨Qr_ HO153.out⟩, ⟨Qa0_⟩⟩
       ·rw [if_neg c8] at H
        exact absurd H (by simp)
      ·rw [if_neg c7] at H
       have c7b0 := decide_eq_false c7
       clear c7
       (first | rw [c7b0] | (simp only [i64_w, i32_w]; rw [c7b0]) | skip)
       have H' := Aside0.mk H
       clear H
       go_wp2
       go_meet
       case rel => exact ⟨_, (x3_1), H', ⟨by have := HK1.out; first | omega | exact Nat.le_refl _⟩, ⟨Qr_ HO_3.out⟩, ⟨Qa0_⟩⟩
     case rest =>
      clear HC6
      try clear c2
      try clear c2b0
      try clear c2b1
      try clear p2
      try clear c5
      try clear c5b0
      try clear c5b1
      try clear c7
      try clear c7b0
      try clear c8
      try clear p2
      obtain ⟨kq, x3_5, HA, HJ5, HO_3, HB⟩ := hcut
      cases kq with
      | zero => exact absurd HA.out (by simp [spec_l01Dec.j1])
      | succ kj5 =>
       have H := HA.out
       clear HA
       simp only [spec_l01Dec.j1] at H
       obtain ⟨y154, hy154⟩ : ∃ y_ : List Int, y_ = (([] : List Int)) := ⟨_, rfl⟩
       replace H : (spec_l01Dec.l1 kj5 x3_5 y154 (wrap64 ((x3_5.length : Int) - 1))) = some r := by first | (rw [hy154]; with_reducible exact H) | (have H2_ := (Option.bind_some _ _).symm.trans H; rw [hy154]; with_reducible exact H2_) | (have H2_ := (Option.bind_some _ _).symm.trans H; with_reducible exact H2_) | with_reducible exact H | (rw [hy154]; exact H) | exact H
       have Ny154 := Aside0.mk hy154
       clear hy154
       have H' := Aside0.mk H
       clear H
       go_wp2_with (first | ((with_reducible refine gate_dst (N := 33) rfl ?_); refine Kd.R_lit (Kd.int .u8) _ 5 ?hg (N := 33) ?hd (xs := ([] : List Int)) (inner := []) (ok := fun _ => True) (okp := fun _ => True) ?hr ?hp (fun _ hk => hk) trivial (Below.refl _ _) (Nat.le_refl _) (by simp) ?_; (case hd => rfl); (case hg => rfl); (case hr => exact Qj0_); (case hp => exact (Reps.none _ _)); intro v155 w10 ho11 hb hg_ hnew_; clear hg_ hnew_; (first | rw [← Ny154.out] at ho11 | (simp only [Int.reduceToNat] at ho11; rw [← Ny154.out] at ho11)); have n0_ := Aside0.mk (Kd.R_elder' (Qr_ HO_3.out) (Kd.R_base ho11) hb); have n1_ := Aside0.mk (Kd.R_lower (Kd.R_new' ho11 (Kd.R_lt (Qr_ HO_3.out))) (below_size Qa0_)); have n2_ := Aside0.mk (below_step Qa0_ hb); clear HO_3; clear HB; have HO_3 := n0_; have HO156 := n1_; have HB := n2_; clear n0_ n1_ n2_; clear hb ho11; obtain ⟨Ao12, co12, eo12⟩ := Kd.R_slice HO_3.out; subst eo12))
       go_loopg [6, 7] kj5 (fun kq v6 v7 w' => ∃ (x6_3 : List Int) (x7_3 : Int), v7 = .int .i64 x7_3 ∧ Aside0 (spec_l01Dec.l1 kq x3_5 x6_3 x7_3 = some r) ∧ Aside0 (kq ≤ kj5) ∧ Aside0 (Kd.R (Kd.int .u8) 5 w' w.heap.size (fun k_ => some k_ ≠ (v6 : Value).ownBlock) (.slice Ao12 x3_5.length co12) x3_5) ∧ Aside0 (Kd.R (Kd.int .u8) 5 w' w.heap.size (fun k_ => some k_ ≠ ((.slice Ao12 x3_5.length co12) : Value).ownBlock) v6 x6_3) ∧ Aside0 (Below w.heap.size w w'))
       case atStart => exact ⟨(y154), (wrap64 ((x3_5.length : Int) - 1)), Qf0_, H', ⟨Nat.le_refl _⟩, ⟨by (with_reducible repeat (first | apply Kd.R_alloc | apply Kd.R_drewN | apply Kd.R_drew)); exact Kd.R_mono HO_3.out (fun _ hk => hk.2)⟩, ⟨by (with_reducible repeat (first | apply Kd.R_alloc | apply Kd.R_drewN | apply Kd.R_drew)); exact Kd.R_mono HO156.out (fun _ hk => hk.2)⟩, ⟨Qa0_⟩⟩
       case round =>
        clear H'
        try clear c2
        try clear c2b0
        try clear c2b1
        try clear p2
        try clear c5
        try clear c5b0
        try clear c5b1
        try clear p6
        try clear c7
        try clear c7b0
        try clear c8
        try clear p2
        obtain ⟨x6_3, x7_3, rfl, HA, HK3, HO_3, HO_6, HB⟩ := hrel
        cases gk with
        | zero => exact absurd HA.out (by simp [spec_l01Dec.l1])
        | succ k3 =>
         have H := HA.out
         clear HA
         simp only [spec_l01Dec.l1] at H
         by_cases c13 : x7_3 ≥ 0
         ·rw [if_pos c13] at H
          have c13b0 := decide_eq_true c13
          clear c13
          by_cases c14 : 0 ≤ x7_3
          ·rw [if_pos c14] at H
           have c14b0 := decide_eq_true c14
           clear c14
           by_cases c15 : x7_3 < (x3_5.length : Int)
           ·rw [if_pos c15] at H
            have c15b0 := decide_eq_true c15
            clear c15
            by_cases c16 : x6_3.length < 140737488355328
            ·rw [if_pos c16] at H
             have LMc16 := Aside0.mk c16
             clear c16
             obtain ⟨y158, hy158⟩ : ∃ y_ : List Int, y_ = (x6_3 ++ [rd x3_5 x7_3]) := ⟨_, rfl⟩
             replace H : (spec_l01Dec.l1 k3 x3_5 y158 (wrap64 (x7_3 - 1))) = some r := by first | (rw [hy158]; with_reducible exact H) | (have H2_ := (Option.bind_some _ _).symm.trans H; rw [hy158]; with_reducible exact H2_) | (have H2_ := (Option.bind_some _ _).symm.trans H; with_reducible exact H2_) | with_reducible exact H | (rw [hy158]; exact H) | exact H
             have Ny158 := Aside0.mk hy158
             clear hy158
             have H' := Aside0.mk H
             clear H
             have p157 : 0 ≤ (x7_3 : Int) := of_decide_eq_true Qg0_
             have q157 : x7_3 < (x3_5.length : Int) := of_decide_eq_true Qg0_
             obtain ⟨ad157, e157, hx157_0⟩ := Kd.at_int (Kd.R_reads' HO_3.out).2.2 x7_3 p157 q157
             cases e157
             replace p157 := eq_true p157
             replace q157 := eq_true q157
             go_wp2_with (first | ((with_reducible refine gate_builtin (b := .append) (xs := #[.tmp 41, .tmp 46]) rfl ?_); at_builtin; refine Kd.R_append (Kd.int .u8) (w0 := w) w.heap.size rfl (.tmp 41) (.tmp 46) 22 5 (.int .u8 0) 1 rfl Tryz.underlying22 info5 rfl (by decide) (by omega) u6 x6_3 (rd x3_5 x7_3) [.int .u8 (rd x3_5 x7_3)] (fun k_ => some k_ ≠ (.slice (some ad157) x3_5.length co12 : Value).ownBlock) (fun _ => False) rfl rfl ?aP (fun _ hk => hk.elim) ?aF ?aO ?aB ?aS ?aL ?_; (case aP => exact rfl); (case aB => exact Qa0_); (case aF => exact (fun k_ hk => Kd.fresh' (Kd.R_lt (Qr_ HO_3.out)) k_ hk)); (case aO => exact (Qr_ HO_6.out)); (case aS => exact (below_size Qa0_)); (case aL => have := LMc16.out; omega); intro v159 w17 ho hb hg hat; rw [← Ny158.out] at ho; have n0_ := Aside0.mk (Kd.R_after (ok := (fun _ => True)) (by (with_reducible repeat (first | apply Kd.R_alloc | apply Kd.R_drewN | apply Kd.R_drew)); exact Kd.R_mono HO_3.out (fun _ hk => ⟨trivial, hk⟩)) hg hat); have n1_ := Aside0.mk (hb); have n2_ := Aside0.mk (ho); clear HO_3; clear HB; clear HO_6; have HO_3 := n0_; have HB := n1_; have HO160 := n2_; clear n0_ n1_ n2_; clear ho hb hg hat))
             go_roundg k3
             case measure => have := HK1.out; have := HJ5.out; have := HK3.out; omega
             case rel => exact ⟨(y158), (wrap64 (x7_3 - 1)), Qf0_, H', ⟨by have := HK1.out; have := HJ5.out; have := HK3.out; omega⟩, ⟨by (with_reducible repeat (first | apply Kd.R_alloc | apply Kd.R_drewN | apply Kd.R_drew)); exact Kd.R_mono HO_3.out (fun _ hk => hk.2)⟩, ⟨Qr_ HO160.out⟩, ⟨Qa0_⟩⟩
            ·rw [if_neg c16] at H
             exact absurd H (by simp)
           ·rw [if_neg c15] at H
            exact absurd H (by simp)
          ·rw [if_neg c14] at H
           exact absurd H (by simp)
         ·rw [if_neg c13] at H
          have c13b0 := decide_eq_false c13
          clear c13
          obtain rfl := Option.some.inj H
          have hcv18 := own_string (P := Tryz.prog) Tryz.underlying22 Tryz.underlying5 Tryz.underlying9 (Kd.own_of_R HO_6.out)
          go_wp2
          go_ret
          exact ⟨Qh0_, Qa0_⟩
    ·rw [if_neg c5] at H
     have c5b0 := beq_eq_false_iff_ne.mpr c5
     have c5b1 := bne_iff_ne.mpr c5
     by_cases c19 : (Int.tmod x4_1 10) < 0
     ·rw [if_pos c19] at H
      have c19b0 := decide_eq_true c19
      clear c19
      by_cases c20 : x3_1.length < 140737488355328
      ·rw [if_pos c20] at H
       have LMc20 := Aside0.mk c20
       clear c20
       obtain ⟨y145, hy145⟩ : ∃ y_ : List Int, y_ = (x3_1 ++ [(wrap64 (48 + (wrap64 (-(Int.tmod x4_1 10))))) % 256]) := ⟨_, rfl⟩
       replace H : (spec_l01Dec.l0 k1 a0 y145 (wrap64 (Int.tdiv x4_1 10))) = some r := by first | (rw [hy145]; with_reducible exact H) | (have H2_ := (Option.bind_some _ _).symm.trans H; rw [hy145]; with_reducible exact H2_) | (have H2_ := (Option.bind_some _ _).symm.trans H; with_reducible exact H2_) | with_reducible exact H | (rw [hy145]; exact H) | exact H
       have Ny145 := Aside0.mk hy145
       clear hy145
       have H' := Aside0.mk H
       clear H
       go_wp2_with (first | ((with_reducible refine gate_builtin (b := .append) (xs := #[.tmp 22, .tmp 26]) rfl ?_); at_builtin; refine Kd.R_append (Kd.int .u8) (w0 := w) w.heap.size rfl (.tmp 22) (.tmp 26) 22 5 (.int .u8 0) 1 rfl Tryz.underlying22 info5 rfl (by decide) (by omega) u3 x3_1 ((wrap64 (48 + (wrap64 (-(Int.tmod x4_1 10))))) % 256) [.int .u8 ((wrap64 (48 + (wrap64 (-(Int.tmod x4_1 10))))) % 256)] (fun _ => True) (fun _ => False) rfl rfl ?aP (fun _ hk => hk.elim) ?aF ?aO ?aB ?aS ?aL ?_; (case aP => exact rfl); (case aB => exact Qa0_); (case aF => exact (fun _ _ => trivial)); (case aO => exact (Qr_ HO_3.out)); (case aS => exact (below_size Qa0_)); (case aL => have := LMc20.out; omega); intro v146 w21 ho hb hg hat; rw [← Ny145.out] at ho; have n0_ := Aside0.mk (hb); have n1_ := Aside0.mk (ho); clear HB; clear HO_3; have HB := n0_; have HO147 := n1_; clear n0_ n1_; clear ho hb hg hat))
       go_roundg k1
       case measure => have := HK1.out; omega
       case rel => exact ⟨(y145), (wrap64 (Int.tdiv x4_1 10)), Qf0_, H', ⟨Qs0_⟩, ⟨Qr_ HO147.out⟩, ⟨Qa0_⟩⟩
      ·rw [if_neg c20] at H
       exact absurd H (by simp)
     ·rw [if_neg c19] at H
      have c19b0 := decide_eq_false c19
      clear c19
      by_cases c22 : x3_1.length < 140737488355328
      ·rw [if_pos c22] at H
       have LMc22 := Aside0.mk c22
       clear c22
       obtain ⟨y148, hy148⟩ : ∃ y_ : List Int, y_ = (x3_1 ++ [(wrap64 (48 + (Int.tmod x4_1 10))) % 256]) := ⟨_, rfl⟩
       replace H : (spec_l01Dec.l0 k1 a0 y148 (wrap64 (Int.tdiv x4_1 10))) = some r := by first | (rw [hy148]; with_reducible exact H) | (have H2_ := (Option.bind_some _ _).symm.trans H; rw [hy148]; with_reducible exact H2_) | (have H2_ := (Option.bind_some _ _).symm.trans H; with_reducible exact H2_) | with_reducible exact H | (rw [hy148]; exact H) | exact H
       have Ny148 := Aside0.mk hy148
       clear hy148
       have H' := Aside0.mk H
       clear H
       go_wp2_with (first | ((with_reducible refine gate_builtin (b := .append) (xs := #[.tmp 22, .tmp 26]) rfl ?_); at_builtin; refine Kd.R_append (Kd.int .u8) (w0 := w) w.heap.size rfl (.tmp 22) (.tmp 26) 22 5 (.int .u8 0) 1 rfl Tryz.underlying22 info5 rfl (by decide) (by omega) u3 x3_1 ((wrap64 (48 + (Int.tmod x4_1 10))) % 256) [.int .u8 ((wrap64 (48 + (Int.tmod x4_1 10))) % 256)] (fun _ => True) (fun _ => False) rfl rfl ?aP (fun _ hk => hk.elim) ?aF ?aO ?aB ?aS ?aL ?_; (case aP => exact rfl); (case aB => exact Qa0_); (case aF => exact (fun _ _ => trivial)); (case aO => exact (Qr_ HO_3.out)); (case aS => exact (below_size Qa0_)); (case aL => have := LMc22.out; omega); intro v149 w23 ho hb hg hat; rw [← Ny148.out] at ho; have n0_ := Aside0.mk (hb); have n1_ := Aside0.mk (ho); clear HB; clear HO_3; have HB := n0_; have HO150 := n1_; clear n0_ n1_; clear ho hb hg hat))
       go_roundg k1
       case measure => have := HK1.out; omega
       case rel => exact ⟨(y148), (wrap64 (Int.tdiv x4_1 10)), Qf0_, H', ⟨Qs0_⟩, ⟨Qr_ HO150.out⟩, ⟨Qa0_⟩⟩
      ·rw [if_neg c22] at H
       exact absurd H (by simp)
def spec_l01Text.l0 : Nat → List Int → ByteArray → Int → Option (ByteArray)
 | 0, _, _, _ => none
 | k + 1, x0, x3, x4 => if x4 < (x0.length : Int) then (if x4 > 0 then (if x3.size + 1 ≤ 9223372036854775807 then (if 0 ≤ x4 then ((spec_l01Dec.f k (rd x0 x4)).bind fun t162 => (if (x3 ++ (⟨#[44]⟩ : ByteArray)).size + t162.size ≤ 9223372036854775807 then (spec_l01Text.l0 k x0 ((x3 ++ (⟨#[44]⟩ : ByteArray)) ++ t162) (wrap64 (x4 + 1))) else (none))) else (none)) else (none)) else (if 0 ≤ x4 then ((spec_l01Dec.f k (rd x0 x4)).bind fun t164 => (if x3.size + t164.size ≤ 9223372036854775807 then (spec_l01Text.l0 k x0 (x3 ++ t164) (wrap64 (x4 + 1))) else (none))) else (none))) else (if x3.toList = ([] : List UInt8) then (some (⟨#[110, 111, 110, 101]⟩ : ByteArray)) else (some x3))
def spec_l01Text.f (k : Nat) (l0 : List Int) : Option (ByteArray) := spec_l01Text.l0 k l0 (⟨#[]⟩ : ByteArray) 0
set_option maxHeartbeats 8000000 in
set_option maxRecDepth 100000 in
theorem spec_l01Text.calls (k : Nat) (A0 : Option Addr) (c0 : Nat) (l0 : List Int) (r : ByteArray) (w : World) (hr0 : Kd.C (Kd.int .i64) w A0 l0.length l0) (hc0 : l0.length ≤ c0) (h : spec_l01Text.f k l0 = some r) :
 Calls Tryz.prog 28 #[.slice A0 l0.length c0] w fun e w' => e = .returned (.string r) ∧ Below w.heap.size w w' := by
 have HR0 := Aside0.mk hr0
 have HC0 := Aside0.mk hc0
 clear hr0 hc0
 have HB := Aside0.mk (Below.refl w.heap.size w)
 have H : (spec_l01Text.l0 k l0 (⟨#[]⟩ : ByteArray) 0) = some r := h
 clear h
 have H' := Aside0.mk H
 clear H
 go_enter Tryz.func28, Tryz.ntmps28
 go_wp2
 go_loopg [3, 4] k (fun kq v3 v4 w' => ∃ (x3_1 : ByteArray) (x4_1 : Int), v3 = .string x3_1 ∧ v4 = .int .i64 x4_1 ∧ Aside0 (spec_l01Text.l0 kq l0 x3_1 x4_1 = some r) ∧ Aside0 (kq ≤ k) ∧ Aside0 (Below w.heap.size w w'))
 case atStart => exact ⟨((⟨#[]⟩ : ByteArray)), (0), Qf0_, Qf0_, H', ⟨Nat.le_refl _⟩, ⟨Qa0_⟩⟩
 case round =>
  clear H'
  obtain ⟨x3_1, x4_1, rfl, rfl, HA, HK1, HB⟩ := hrel
  cases gk with
  | zero => exact absurd HA.out (by simp [spec_l01Text.l0])
  | succ k1 =>
   have H := HA.out
   clear HA
   simp only [spec_l01Text.l0] at H
   by_cases c2 : x4_1 < (l0.length : Int)
   ·rw [if_pos c2] at H
    have c2b0 := decide_eq_true c2
    clear c2
    by_cases c3 : x4_1 > 0
    ·rw [if_pos c3] at H
     have c3b0 := decide_eq_true c3
     clear c3
     by_cases c4 : x3_1.size + 1 ≤ 9223372036854775807
     ·rw [if_pos c4] at H
      have c4b0 := eq_true c4
      have c4b1 := decide_eq_true c4
      try have c4b2 := eq_false (Nat.not_lt.2 c4)
      by_cases c5 : 0 ≤ x4_1
      ·rw [if_pos c5] at H
       have c5b0 := decide_eq_true c5
       clear c5
       replace H := Option.bind_eq_some_iff.mp H
       obtain ⟨t162, A60, H⟩ := H
       try dsimp only at H
       have A6 := Aside0.mk A60
       clear A60
       by_cases c7 : (x3_1 ++ (⟨#[44]⟩ : ByteArray)).size + t162.size ≤ 9223372036854775807
       ·rw [if_pos c7] at H
        have c7b0 := eq_true c7
        have c7b1 := decide_eq_true c7
        try have c7b2 := eq_false (Nat.not_lt.2 c7)
        try have c7b4 : (9223372036854775807 < (x3_1.size + 1) + t162.size) = False := eq_false (Nat.not_lt.2 (by have q_ := c7; simp only [ByteArray.size_append] at q_; exact q_))
        have H' := Aside0.mk H
        clear H
        have p161 : 0 ≤ (x4_1 : Int) := of_decide_eq_true Qg0_
        have q161 : x4_1 < (l0.length : Int) := of_decide_eq_true Qg0_
        obtain ⟨ad161, e161, hx161_0⟩ := Kd.at_int HR0.out x4_1 p161 q161
        cases e161
        replace hx161_0 := (HB.out.cell (World.block_lt_of_cell? w _ hx161_0)).trans hx161_0
        replace p161 := eq_true p161
        replace q161 := eq_true q161
        go_wp2_with (first | ((with_reducible refine gate_callee (f := 27) rfl ?_); refine goesL_ (some 20) rfl rfl Tryz.func27 Ql0_ rfl #[.int .i64 (rd l0 x4_1)] rfl Qb0_ ?_; (with_reducible refine (spec_l01Dec.calls k1 (rd l0 x4_1) t162 _ A6.out).mono ?_); rintro e w8 ⟨rfl, hb⟩; refine ⟨_, rfl, ?_⟩; have n0_ := Aside0.mk (below_step Qa0_ hb); clear HB; have HB := n0_; clear n0_; (try clear hb); (try clear hb2); (try clear hk); (try clear hi)))
        go_roundg k1
        case measure => have := HK1.out; omega
        case rel => exact ⟨((x3_1 ++ (⟨#[44]⟩ : ByteArray)) ++ t162), (wrap64 (x4_1 + 1)), (by first | rfl | (simp; done) | (simp [*]; done) | (simp [show (⟨#[44]⟩ : ByteArray).size = 1 from rfl]; done)), Qf0_, H', ⟨Qs0_⟩, ⟨Qa0_⟩⟩
       ·rw [if_neg c7] at H
        exact absurd H (by simp)
      ·rw [if_neg c5] at H
       exact absurd H (by simp)
     ·rw [if_neg c4] at H
      exact absurd H (by simp)
    ·rw [if_neg c3] at H
     have c3b0 := decide_eq_false c3
     clear c3
     by_cases c9 : 0 ≤ x4_1
     ·rw [if_pos c9] at H
      have c9b0 := decide_eq_true c9
      clear c9
      replace H := Option.bind_eq_some_iff.mp H
      obtain ⟨t164, A100, H⟩ := H
      try dsimp only at H
      have A10 := Aside0.mk A100
      clear A100
      by_cases c11 : x3_1.size + t164.size ≤ 9223372036854775807
      ·rw [if_pos c11] at H
       have c11b0 := eq_true c11
       have c11b1 := decide_eq_true c11
       try have c11b2 := eq_false (Nat.not_lt.2 c11)
       have H' := Aside0.mk H
       clear H
       have p163 : 0 ≤ (x4_1 : Int) := of_decide_eq_true Qg0_
       have q163 : x4_1 < (l0.length : Int) := of_decide_eq_true Qg0_
       obtain ⟨ad163, e163, hx163_0⟩ := Kd.at_int HR0.out x4_1 p163 q163
       cases e163
       replace hx163_0 := (HB.out.cell (World.block_lt_of_cell? w _ hx163_0)).trans hx163_0
       replace p163 := eq_true p163
       replace q163 := eq_true q163
       go_wp2_with (first | ((with_reducible refine gate_callee (f := 27) rfl ?_); refine goesL_ (some 20) rfl rfl Tryz.func27 Ql0_ rfl #[.int .i64 (rd l0 x4_1)] rfl Qb0_ ?_; (with_reducible refine (spec_l01Dec.calls k1 (rd l0 x4_1) t164 _ A10.out).mono ?_); rintro e w12 ⟨rfl, hb⟩; refine ⟨_, rfl, ?_⟩; have n0_ := Aside0.mk (below_step Qa0_ hb); clear HB; have HB := n0_; clear n0_; (try clear hb); (try clear hb2); (try clear hk); (try clear hi)))
       go_roundg k1
       case measure => have := HK1.out; omega
       case rel => exact ⟨(x3_1 ++ t164), (wrap64 (x4_1 + 1)), Qf0_, Qf0_, H', ⟨Qs0_⟩, ⟨Qa0_⟩⟩
      ·rw [if_neg c11] at H
       exact absurd H (by simp)
     ·rw [if_neg c9] at H
      exact absurd H (by simp)
   ·rw [if_neg c2] at H
    have c2b0 := decide_eq_false c2
    clear c2
    by_cases c13 : x3_1.toList = ([] : List UInt8)
    ·rw [if_pos c13] at H
     have c13b0 := beq_iff_eq.mpr c13
     have c13b1 := bne_eq_false_iff_eq.mpr c13
     clear c13
     obtain rfl := Option.some.inj H
     go_wp2
     go_ret
     exact ⟨Qh0_, Qa0_⟩
    ·rw [if_neg c13] at H
     have c13b0 := beq_eq_false_iff_ne.mpr c13
     have c13b1 := bne_iff_ne.mpr c13
     obtain rfl := Option.some.inj H
     go_wp2
     go_ret
     exact ⟨Qh0_, Qa0_⟩
mutual
def spec_l11DrawLine.j0 : Nat → List ByteArray → ByteArray → Bool → List Int → Int → Int → Option (ByteArray × Int × Int)
 | 0, _, _, _, _, _, _ => none
 | k + 1, x1, x5, x29, x1000, x1001, x1002 => if x29 = true then ((spec_l00Src_text.f x1000 x1001 x1002 x1).bind fun bt174 => (spec_l11DrawLine.j1 k bt174.1 x1000 bt174.2.1 bt174.2.2)) else (spec_l11DrawLine.j1 k x5 x1000 x1001 x1002)
def spec_l11DrawLine.j1 : Nat → ByteArray → List Int → Int → Int → Option (ByteArray × Int × Int)
 | 0, _, _, _, _ => none
 | k + 1, x5, x1000, x1001, x1002 => (spec_l00Src_text.f x1000 x1001 x1002 (([(⟨#[97]⟩ : ByteArray), (⟨#[98]⟩ : ByteArray), (⟨#[110, 101, 119]⟩ : ByteArray), (⟨#[120]⟩ : ByteArray), (⟨#[119, 105, 114, 101]⟩ : ByteArray), (⟨#[81]⟩ : ByteArray)] : List ByteArray))).bind fun bt180 => ((spec_l00Src_pick.f x1000 bt180.2.1 bt180.2.2 9).bind fun bt183 => (if bt183.1 = 0 then ((spec_l00Src_text.f x1000 bt183.2.1 bt183.2.2 (([(⟨#[]⟩ : ByteArray), (⟨#[119, 104, 97, 116]⟩ : ByteArray), (⟨#[115, 101, 116]⟩ : ByteArray), (⟨#[115, 101, 116, 32, 97]⟩ : ByteArray), (⟨#[115, 101, 116, 32, 97, 32, 50]⟩ : ByteArray), (⟨#[115, 101, 116, 32, 97, 32, 110, 111, 110, 101]⟩ : ByteArray), (⟨#[115, 101, 116, 32, 97, 32]⟩ : ByteArray), (⟨#[115, 104, 111, 119]⟩ : ByteArray), (⟨#[98, 108, 111, 99, 107, 115, 32, 120, 32, 49, 32, 50, 32, 45, 49, 32, 48, 44, 49, 44, 49]⟩ : ByteArray), (⟨#[98, 108, 111, 99, 107, 115, 32, 120, 32, 49, 32, 50, 32, 48, 32, 48]⟩ : ByteArray), (⟨#[98, 108, 111, 99, 107, 115, 32, 120, 32, 57, 32, 50, 32, 49, 32, 48]⟩ : ByteArray), (⟨#[100, 97, 116, 97, 32, 97, 32, 49, 32, 50]⟩ : ByteArray), (⟨#[108, 97, 121, 32, 98, 32, 97, 32, 50]⟩ : ByteArray), (⟨#[102, 108, 105, 112, 32, 97, 32, 45, 49]⟩ : ByteArray), (⟨#[118, 111, 116, 101, 32, 98, 32, 97, 32, 50]⟩ : ByteArray), (⟨#[99, 108, 111, 99, 107, 32, 98, 32, 97, 32, 49, 32, 50]⟩ : ByteArray)] : List ByteArray))).bind fun bt189 => (some (bt189.1, bt189.2.1, bt189.2.2))) else (if bt183.1 = 1 then (if 4 + bt180.1.size ≤ 9223372036854775807 then (if ((⟨#[115, 101, 116, 32]⟩ : ByteArray) ++ bt180.1).size + 1 ≤ 9223372036854775807 then ((spec_l11DrawFew.f k x1000 bt183.2.1 bt183.2.2).bind fun bt192 => ((spec_l11Show.f bt192.1).bind fun t195 => (if (((⟨#[115, 101, 116, 32]⟩ : ByteArray) ++ bt180.1) ++ (⟨#[32]⟩ : ByteArray)).size + t195.size ≤ 9223372036854775807 then (some ((((⟨#[115, 101, 116, 32]⟩ : ByteArray) ++ bt180.1) ++ (⟨#[32]⟩ : ByteArray)) ++ t195, bt192.2.1, bt192.2.2)) else (none)))) else (none)) else (none)) else (if bt183.1 = 2 then ((spec_l00Src_text.f x1000 bt183.2.1 bt183.2.2 (([(⟨#[115, 104, 111, 119, 32]⟩ : ByteArray), (⟨#[100, 114, 111, 112, 32]⟩ : ByteArray), (⟨#[115, 104, 111, 119, 32]⟩ : ByteArray)] : List ByteArray))).bind fun bt199 => (if bt199.1.size + x5.size ≤ 9223372036854775807 then (some (bt199.1 ++ x5, bt199.2.1, bt199.2.2)) else (none))) else (if bt183.1 = 3 then (if 5 + x5.size ≤ 9223372036854775807 then (if ((⟨#[102, 108, 105, 112, 32]⟩ : ByteArray) ++ x5).size + 1 ≤ 9223372036854775807 then ((spec_l00Src_pick.f x1000 bt183.2.1 bt183.2.2 26).bind fun bt202 => ((spec_l01Dec.f k (wrap64 (bt202.1 - 1))).bind fun t205 => (if (((⟨#[102, 108, 105, 112, 32]⟩ : ByteArray) ++ x5) ++ (⟨#[32]⟩ : ByteArray)).size + t205.size ≤ 9223372036854775807 then (some ((((⟨#[102, 108, 105, 112, 32]⟩ : ByteArray) ++ x5) ++ (⟨#[32]⟩ : ByteArray)) ++ t205, bt202.2.1, bt202.2.2)) else (none)))) else (none)) else (none)) else (if bt183.1 = 4 then ((spec_l00Src_pick.f x1000 bt183.2.1 bt183.2.2 5).bind fun bt209 => (spec_l11DrawLine.l0 k bt180.1 (([] : List Int)) bt209.1 x1000 bt209.2.1 bt209.2.2)) else (if bt183.1 = 5 then ((spec_l00Src_pick.f x1000 bt183.2.1 bt183.2.2 2).bind fun bt223 => (if 5 + x5.size ≤ 9223372036854775807 then (if ((⟨#[100, 97, 116, 97, 32]⟩ : ByteArray) ++ x5).size + 1 ≤ 9223372036854775807 then ((spec_l00Src_pick.f x1000 bt223.2.1 bt223.2.2 2).bind fun bt226 => ((spec_l01Dec.f k (wrap64 (1 + bt226.1))).bind fun t229 => (if (((⟨#[100, 97, 116, 97, 32]⟩ : ByteArray) ++ x5) ++ (⟨#[32]⟩ : ByteArray)).size + t229.size ≤ 9223372036854775807 then (if ((((⟨#[100, 97, 116, 97, 32]⟩ : ByteArray) ++ x5) ++ (⟨#[32]⟩ : ByteArray)) ++ t229).size + 1 ≤ 9223372036854775807 then (if (((((⟨#[100, 97, 116, 97, 32]⟩ : ByteArray) ++ x5) ++ (⟨#[32]⟩ : ByteArray)) ++ t229) ++ (⟨#[32]⟩ : ByteArray)).size + 2 ≤ 9223372036854775807 then ((spec_l01Dec.f k (wrap64 ((wrap64 (2 * bt223.1)) - 1))).bind fun t230 => (if ((((((⟨#[100, 97, 116, 97, 32]⟩ : ByteArray) ++ x5) ++ (⟨#[32]⟩ : ByteArray)) ++ t229) ++ (⟨#[32]⟩ : ByteArray)) ++ (⟨#[52, 32]⟩ : ByteArray)).size + t230.size ≤ 9223372036854775807 then (some (((((((⟨#[100, 97, 116, 97, 32]⟩ : ByteArray) ++ x5) ++ (⟨#[32]⟩ : ByteArray)) ++ t229) ++ (⟨#[32]⟩ : ByteArray)) ++ (⟨#[52, 32]⟩ : ByteArray)) ++ t230, bt226.2.1, bt226.2.2)) else (none))) else (none)) else (none)) else (none)))) else (none)) else (none))) else (if bt183.1 = 6 then ((spec_l00Src_text.f x1000 bt183.2.1 bt183.2.2 (([(⟨#[108, 97, 121, 32]⟩ : ByteArray), (⟨#[117, 110, 108, 97, 121, 32]⟩ : ByteArray), (⟨#[99, 108, 111, 99, 107, 32]⟩ : ByteArray)] : List ByteArray))).bind fun bt234 => ((spec_l00Src_pick.f x1000 bt234.2.1 bt234.2.2 12).bind fun bt237 => (if bt234.1.size + bt180.1.size ≤ 9223372036854775807 then (if (bt234.1 ++ bt180.1).size + 1 ≤ 9223372036854775807 then (if ((bt234.1 ++ bt180.1) ++ (⟨#[32]⟩ : ByteArray)).size + x5.size ≤ 9223372036854775807 then (if (((bt234.1 ++ bt180.1) ++ (⟨#[32]⟩ : ByteArray)) ++ x5).size + 1 ≤ 9223372036854775807 then ((spec_l01Dec.f k (wrap64 (1 + bt237.1))).bind fun t240 => (if ((((bt234.1 ++ bt180.1) ++ (⟨#[32]⟩ : ByteArray)) ++ x5) ++ (⟨#[32]⟩ : ByteArray)).size + t240.size ≤ 9223372036854775807 then (if (((((bt234.1 ++ bt180.1) ++ (⟨#[32]⟩ : ByteArray)) ++ x5) ++ (⟨#[32]⟩ : ByteArray)) ++ t240).size + 1 ≤ 9223372036854775807 then ((spec_l00Src_pick.f x1000 bt237.2.1 bt237.2.2 12).bind fun bt241 => ((spec_l01Dec.f k (wrap64 (1 + bt241.1))).bind fun t244 => (if ((((((bt234.1 ++ bt180.1) ++ (⟨#[32]⟩ : ByteArray)) ++ x5) ++ (⟨#[32]⟩ : ByteArray)) ++ t240) ++ (⟨#[32]⟩ : ByteArray)).size + t244.size ≤ 9223372036854775807 then (some (((((((bt234.1 ++ bt180.1) ++ (⟨#[32]⟩ : ByteArray)) ++ x5) ++ (⟨#[32]⟩ : ByteArray)) ++ t240) ++ (⟨#[32]⟩ : ByteArray)) ++ t244, bt241.2.1, bt241.2.2)) else (none)))) else (none)) else (none))) else (none)) else (none)) else (none)) else (none)))) else (if bt183.1 = 7 then ((spec_l00Src_text.f x1000 bt183.2.1 bt183.2.2 (([(⟨#[114, 101, 112, 101, 97, 116, 32]⟩ : ByteArray), (⟨#[118, 111, 116, 101, 32]⟩ : ByteArray)] : List ByteArray))).bind fun bt248 => (if bt248.1.size + bt180.1.size ≤ 9223372036854775807 then (if (bt248.1 ++ bt180.1).size + 1 ≤ 9223372036854775807 then (if ((bt248.1 ++ bt180.1) ++ (⟨#[32]⟩ : ByteArray)).size + x5.size ≤ 9223372036854775807 then (if (((bt248.1 ++ bt180.1) ++ (⟨#[32]⟩ : ByteArray)) ++ x5).size + 1 ≤ 9223372036854775807 then ((spec_l00Src_pick.f x1000 bt248.2.1 bt248.2.2 3).bind fun bt251 => ((spec_l01Dec.f k (wrap64 (1 + (wrap64 (2 * bt251.1))))).bind fun t254 => (if ((((bt248.1 ++ bt180.1) ++ (⟨#[32]⟩ : ByteArray)) ++ x5) ++ (⟨#[32]⟩ : ByteArray)).size + t254.size ≤ 9223372036854775807 then (some (((((bt248.1 ++ bt180.1) ++ (⟨#[32]⟩ : ByteArray)) ++ x5) ++ (⟨#[32]⟩ : ByteArray)) ++ t254, bt251.2.1, bt251.2.2)) else (none)))) else (none)) else (none)) else (none)) else (none))) else ((spec_l00Src_among.f x1000 bt183.2.1 bt183.2.2 (([11, 13, 19, 7, 2, 1] : List Int))).bind fun bt258 => ((spec_l00Src_one.f x1000 bt258.2.1 bt258.2.2 2).bind fun bt261 => (if bt261.1 = true then (if 7 + x5.size ≤ 9223372036854775807 then (if ((⟨#[118, 101, 114, 105, 102, 121, 32]⟩ : ByteArray) ++ x5).size + 1 ≤ 9223372036854775807 then ((spec_l01Dec.f k bt258.1).bind fun t264 => (if (((⟨#[118, 101, 114, 105, 102, 121, 32]⟩ : ByteArray) ++ x5) ++ (⟨#[32]⟩ : ByteArray)).size + t264.size ≤ 9223372036854775807 then (some ((((⟨#[118, 101, 114, 105, 102, 121, 32]⟩ : ByteArray) ++ x5) ++ (⟨#[32]⟩ : ByteArray)) ++ t264, bt261.2.1, bt261.2.2)) else (none))) else (none)) else (none)) else (if 6 + bt180.1.size ≤ 9223372036854775807 then (if ((⟨#[99, 104, 101, 99, 107, 32]⟩ : ByteArray) ++ bt180.1).size + 1 ≤ 9223372036854775807 then (if (((⟨#[99, 104, 101, 99, 107, 32]⟩ : ByteArray) ++ bt180.1) ++ (⟨#[32]⟩ : ByteArray)).size + x5.size ≤ 9223372036854775807 then (if ((((⟨#[99, 104, 101, 99, 107, 32]⟩ : ByteArray) ++ bt180.1) ++ (⟨#[32]⟩ : ByteArray)) ++ x5).size + 1 ≤ 9223372036854775807 then ((spec_l01Dec.f k bt258.1).bind fun t265 => (if (((((⟨#[99, 104, 101, 99, 107, 32]⟩ : ByteArray) ++ bt180.1) ++ (⟨#[32]⟩ : ByteArray)) ++ x5) ++ (⟨#[32]⟩ : ByteArray)).size + t265.size ≤ 9223372036854775807 then (some ((((((⟨#[99, 104, 101, 99, 107, 32]⟩ : ByteArray) ++ bt180.1) ++ (⟨#[32]⟩ : ByteArray)) ++ x5) ++ (⟨#[32]⟩ : ByteArray)) ++ t265, bt261.2.1, bt261.2.2)) else (none))) else (none)) else (none)) else (none)) else (none))))))))))))))
def spec_l11DrawLine.l0 : Nat → ByteArray → List Int → Int → List Int → Int → Int → Option (ByteArray × Int × Int)
 | 0, _, _, _, _, _, _ => none
 | k + 1, x6, x8, x9, x1000, x1001, x1002 => if x9 > 0 then ((spec_l00Src_pick.f x1000 x1001 x1002 4).bind fun bt212 => (if x8.length < 17592186044416 then (spec_l11DrawLine.l0 k x6 (x8 ++ [bt212.1]) (wrap64 (x9 - 1)) x1000 bt212.2.1 bt212.2.2) else (none))) else ((spec_l00Src_pick.f x1000 x1001 x1002 2).bind fun bt218 => (if 7 + x6.size ≤ 9223372036854775807 then (if ((⟨#[98, 108, 111, 99, 107, 115, 32]⟩ : ByteArray) ++ x6).size + 5 ≤ 9223372036854775807 then ((spec_l01Dec.f k (wrap64 ((wrap64 (2 * bt218.1)) - 1))).bind fun t221 => (if (((⟨#[98, 108, 111, 99, 107, 115, 32]⟩ : ByteArray) ++ x6) ++ (⟨#[32, 50, 32, 52, 32]⟩ : ByteArray)).size + t221.size ≤ 9223372036854775807 then (if ((((⟨#[98, 108, 111, 99, 107, 115, 32]⟩ : ByteArray) ++ x6) ++ (⟨#[32, 50, 32, 52, 32]⟩ : ByteArray)) ++ t221).size + 1 ≤ 9223372036854775807 then ((spec_l01Text.f k x8).bind fun t222 => (if (((((⟨#[98, 108, 111, 99, 107, 115, 32]⟩ : ByteArray) ++ x6) ++ (⟨#[32, 50, 32, 52, 32]⟩ : ByteArray)) ++ t221) ++ (⟨#[32]⟩ : ByteArray)).size + t222.size ≤ 9223372036854775807 then (some ((((((⟨#[98, 108, 111, 99, 107, 115, 32]⟩ : ByteArray) ++ x6) ++ (⟨#[32, 50, 32, 52, 32]⟩ : ByteArray)) ++ t221) ++ (⟨#[32]⟩ : ByteArray)) ++ t222, bt218.2.1, bt218.2.2)) else (none))) else (none)) else (none))) else (none)) else (none)))
end
def spec_l11DrawLine.f (k : Nat) (s0_0 : List Int) (s0_1 : Int) (s0_2 : Int) (l1 : List ByteArray) : Option (ByteArray × Int × Int) := (spec_l00Src_text.f s0_0 s0_1 s0_2 (([(⟨#[97]⟩ : ByteArray), (⟨#[98]⟩ : ByteArray), (⟨#[110, 105, 120]⟩ : ByteArray), (⟨#[]⟩ : ByteArray)] : List ByteArray))).bind fun bt168 => (if (l1.length : Int) > 0 then ((spec_l00Src_one.f s0_0 bt168.2.1 bt168.2.2 6).bind fun bt171 => (spec_l11DrawLine.j0 k l1 bt168.1 (!bt171.1) s0_0 bt171.2.1 bt171.2.2)) else (spec_l11DrawLine.j0 k l1 bt168.1 false s0_0 bt168.2.1 bt168.2.2))
theorem pt_cell {w w1 : World} {g b j : Nat} {v : Value} (h : KeepBut w w1 g none) (hc : w.cell? ⟨b, j, none⟩ = some v) (hb : b ≠ g) : w1.cell? ⟨b, j, none⟩ = some v := by
 have hl := World.block_lt_of_cell? w _ hc
 have e := h.2 b hl hb (by simp)
 unfold World.cell? at hc ⊢
 rw [e]; exact hc
end Go.Proofs.YtdaeioklcilipaaGreatDoor.QFnConsole
