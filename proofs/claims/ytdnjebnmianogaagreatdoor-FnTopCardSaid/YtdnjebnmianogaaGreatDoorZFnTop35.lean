/- Made small by wip/pack.py: lemmas and contracts that the law's row leans on. -/
import Derived.Test.YtdnjebnmianogaaGreatDoorZFnTop27
import Derived.Test.YtdnjebnmianogaaGreatDoorZFnTop28
import Derived.Test.YtdnjebnmianogaaGreatDoorZFnTop30
import Derived.Test.YtdnjebnmianogaaGreatDoorZFnTop32
import Derived.Test.YtdnjebnmianogaaGreatDoorZFnTop34
namespace Go.Proofs.YtdnjebnmianogaaGreatDoor.QFnTop
open Go.RowKit Go.Proofs.YtdnjebnmianogaaGreatDoorW.PrintWords Go.Proofs.YtdnjebnmianogaaGreatDoorW.PrintLast Go.Proofs.YtdnjebnmianogaaGreatDoorW.PrintMore
attribute [local go_sem] max2_int min2_int max_two min_two max_three min_three max_four min_four
set_option linter.unusedVariables false
set_option linter.unusedSimpArgs false
theorem bl_asymm8 : ∀ (x y : List UInt8), Op.bytesLess x y = true → Op.bytesLess y x = false
 | _, [], h => by simp [Op.bytesLess] at h
 | [], _ :: _, _ => by simp [Op.bytesLess]
 | a :: x, b :: y, h => by
  simp only [Op.bytesLess, Bool.or_eq_true, Bool.and_eq_true, decide_eq_true_eq, beq_iff_eq, Bool.or_eq_false_iff, Bool.and_eq_false_iff, decide_eq_false_iff_not, beq_eq_false_iff_ne, ne_eq] at h ⊢
  rcases h with h | ⟨rfl, h⟩
  ·exact ⟨fun h2 => UInt8.lt_irrefl _ (UInt8.lt_trans h h2), .inl (fun h2 => UInt8.lt_irrefl _ (h2 ▸ h))⟩
  ·exact ⟨UInt8.lt_irrefl _, .inr (bl_asymm8 x y h)⟩
theorem bl_self8 : ∀ (x : List UInt8), Op.bytesLess x x = false
 | [] => rfl
 | a :: x => by simp [Op.bytesLess, bl_self8 x, UInt8.lt_irrefl]
theorem bl_ne8 (x y : List UInt8) (h : Op.bytesLess x y = true) : (y == x) = false := by
 refine beq_eq_false_iff_ne.2 (fun e => ?_)
 rw [e, bl_self8] at h
 exact absurd h (by decide)
theorem bl_total8 : ∀ (x y : List UInt8), Op.bytesLess x y = false → (Op.bytesLess y x || y == x) = true
 | [], [], _ => by simp [Op.bytesLess]
 | _ :: _, [], _ => by simp [Op.bytesLess]
 | [], _ :: _, h => by simp [Op.bytesLess] at h
 | a :: x, b :: y, h => by
  simp only [Op.bytesLess, Bool.or_eq_false_iff, Bool.and_eq_false_iff, decide_eq_false_iff_not, beq_eq_false_iff_ne, ne_eq] at h
  obtain ⟨h1, h2⟩ := h
  by_cases e : a = b
  ·subst e
   have h3 : Op.bytesLess x y = false := by rcases h2 with h2 | h2 <;> simp_all
   have h4 := bl_total8 x y h3
   simp only [Bool.or_eq_true, beq_iff_eq] at h4
   rcases h4 with h4 | h4 <;> simp [Op.bytesLess, h4, UInt8.lt_irrefl]
  ·have h3 : b < a := UInt8.lt_of_le_of_ne (UInt8.not_lt.1 h1) (fun h => e h.symm)
   simp [Op.bytesLess, h3]
mutual
def impl_ValidConsole.j0 : Nat → Bool → List ByteArray → List ByteArray → Option (Bool)
 | 0, _, _, _ => none
 | k + 1, x17, x252000, x252001 => if x17 = true then (some false) else (impl_ValidConsole.l0 k x252000 (x252000.length : Int) 0 x252000 x252001)
def impl_ValidConsole.l0 : Nat → List ByteArray → Int → Int → List ByteArray → List ByteArray → Option (Bool)
 | 0, _, _, _, _, _ => none
 | k + 1, x19, x20, x21, x252000, x252001 => if x21 < x20 then (if 0 ≤ x21 then (if x21 < (x19.length : Int) then ((impl_IsName.f k (rdOf ByteArray.empty x19 x21)).bind fun t253 => (if t253 = true then (if x21 > 0 then (if 0 ≤ (wrap64 (x21 - 1)) then (if (wrap64 (x21 - 1)) < (x252000.length : Int) then (if ((Op.bytesLess ((rdOf ByteArray.empty x252000 (wrap64 (x21 - 1))).toList) ((rdOf ByteArray.empty x19 x21).toList)) = true) then (if x21 < (x252001.length : Int) then ((impl_IsBits.f (rdOf ByteArray.empty x252001 x21)).bind fun t256 => (if t256 = true then (impl_ValidConsole.l0 k x19 x20 (wrap64 (x21 + 1)) x252000 x252001) else (some false))) else (none)) else (some false)) else (none)) else (none)) else (if x21 < (x252001.length : Int) then ((impl_IsBits.f (rdOf ByteArray.empty x252001 x21)).bind fun t258 => (if t258 = true then (impl_ValidConsole.l0 k x19 x20 (wrap64 (x21 + 1)) x252000 x252001) else (some false))) else (none))) else (some false))) else (none)) else (none)) else (some true)
end
def impl_ValidConsole.f (k : Nat) (l0_0 : List ByteArray) (l0_1 : List ByteArray) : Option (Bool) := if (l0_0.length : Int) > 6 then (impl_ValidConsole.j0 k true l0_0 l0_1) else (impl_ValidConsole.j0 k ((l0_1.length : Int) != (l0_0.length : Int)) l0_0 l0_1)
set_option maxHeartbeats 8000000 in
set_option maxRecDepth 100000 in
theorem impl_ValidConsole.calls (k : Nat) (A0_0 : Option Addr) (c0_0 : Nat) (l0_0 : List ByteArray) (A0_1 : Option Addr) (c0_1 : Nat) (l0_1 : List ByteArray) (r : Bool) (w : World) (hr0_0 : Kd.C Kd.string w A0_0 l0_0.length l0_0) (hc0_0 : l0_0.length ≤ c0_0) (hr0_1 : Kd.C Kd.string w A0_1 l0_1.length l0_1) (hc0_1 : l0_1.length ≤ c0_1) (h : impl_ValidConsole.f k l0_0 l0_1 = some r) :
 Calls Tryz.prog 18 #[.agg #[.slice A0_0 l0_0.length c0_0, .slice A0_1 l0_1.length c0_1]] w fun e w' => e = .returned (.bool r) ∧ Below w.heap.size w w' := by
 have hu42 := Tryz.underlying42
 have HR0_0 := Aside0.mk hr0_0
 have HC0_0 := Aside0.mk hc0_0
 clear hr0_0 hc0_0
 have HR0_1 := Aside0.mk hr0_1
 have HC0_1 := Aside0.mk hc0_1
 clear hr0_1 hc0_1
 have HB := Aside0.mk (Below.refl w.heap.size w)
 have H : (if (l0_0.length : Int) > 6 then (impl_ValidConsole.j0 k true l0_0 l0_1) else (impl_ValidConsole.j0 k ((l0_1.length : Int) != (l0_0.length : Int)) l0_0 l0_1)) = some r := h
 clear h
 have HC2 := Aside0.mk H
 clear H
 go_enter Tryz.func18, Tryz.ntmps18
 go_upto_region 1 with (first | ((with_reducible refine gate_dst (N := 1) rfl ?_); (try (refine gate_guard (by rfl) ?_; dsimp only)); refine box_event ?hg (N := 1) ?hd (cs := #[.slice A0_0 l0_0.length c0_0, .slice A0_1 l0_1.length c0_1]) (t := 42) ?hr ?_; (case hd => rfl); (case hg => rfl); (case hr => exact Qg0_); intro gb251 hg w3 hbox hb; have n0_ := Aside0.mk (below_step Qa0_ hb); have n1_ := Aside0.mk (hbox); have n2_ := Aside0.mk ((Qp1_ : w.heap.size ≤ gb251)); have n3_ := Aside0.mk ((Qp1_ : w.heap.size ≤ gb251)); clear HB; have HB := n0_; have BK251 := n1_; have GW251 := n2_; have GE251 := n3_; clear n0_ n1_ n2_ n3_; clear hb hbox hg))
 (try simp only [Act.put, List.setIfInBounds_toArray, List.set_cons_zero, List.set_cons_succ])
 go_cut [17] (fun v17 wc => ∃ (kq : Nat) (x17_1 : Bool), v17 = .bool x17_1 ∧ Aside0 (impl_ValidConsole.j0 kq x17_1 l0_0 l0_1 = some r) ∧ Aside0 (kq ≤ k) ∧ Aside0 (wc.heap[gb251]? = some (.cells #[(.slice A0_0 l0_0.length c0_0), (.slice A0_1 l0_1.length c0_1)] 42 (0, 0))) ∧ Aside0 (Below w.heap.size w wc))
 case first =>
  have H := HC2.out
  clear HC2
  by_cases c4 : (l0_0.length : Int) > 6
  ·rw [if_pos c4] at H
   have c4b0 := decide_eq_true c4
   have c4b1 : decide (6 < l0_0.length) = true := decide_eq_true (by omega)
   clear c4
   (first | rw [c4b0] | (simp only [i64_w, i32_w]; rw [c4b0]) | skip)
   have H' := Aside0.mk H
   clear H
   have hcz5_0 : w3.cell? ⟨gb251, 0, none⟩ = some (.slice A0_0 l0_0.length c0_0) := (blk_cell BK251.out 0).trans rfl
   have hcz5_1 : w3.cell? ⟨gb251, 1, none⟩ = some (.slice A0_1 l0_1.length c0_1) := (blk_cell BK251.out 1).trans rfl
   have hfz5_0 := blk_frozen BK251.out 0
   have hfz5_1 := blk_frozen BK251.out 1
   go_wp2
   go_meet
   case rel => exact ⟨_, (true), Qc0_, H', ⟨Qe1_⟩, ⟨Qk_ BK251.out⟩, ⟨Qg_ GE251.out⟩⟩
  ·rw [if_neg c4] at H
   have c4b0 := decide_eq_false c4
   have c4b1 : decide (6 < l0_0.length) = false := decide_eq_false (by omega)
   clear c4
   (first | rw [c4b0] | (simp only [i64_w, i32_w]; rw [c4b0]) | skip)
   have H' := Aside0.mk H
   clear H
   have hcz6_0 : w3.cell? ⟨gb251, 0, none⟩ = some (.slice A0_0 l0_0.length c0_0) := (blk_cell BK251.out 0).trans rfl
   have hcz6_1 : w3.cell? ⟨gb251, 1, none⟩ = some (.slice A0_1 l0_1.length c0_1) := (blk_cell BK251.out 1).trans rfl
   have hfz6_0 := blk_frozen BK251.out 0
   have hfz6_1 := blk_frozen BK251.out 1
   go_wp2
   go_meet
   case rel => exact ⟨_, (((l0_1.length : Int) != (l0_0.length : Int))), Qc0_, H', ⟨Qe1_⟩, ⟨Qk_ BK251.out⟩, ⟨Qg_ GE251.out⟩⟩
 case rest =>
  clear HC2
  try clear c1
  try clear p2
  try clear c4
  try clear c4b0
  try clear c4b1
  try clear hcz5_0
  try clear hcz5_1
  try clear hcz6_0
  try clear hcz6_1
  try clear hfz5_0
  try clear hfz5_1
  try clear hfz6_0
  try clear hfz6_1
  obtain ⟨kq, x17_1, rfl, HA, HJ1, BK251, HB⟩ := hcut
  cases kq with
  | zero => exact absurd HA.out (by simp [impl_ValidConsole.j0])
  | succ kj1 =>
   have H := HA.out
   clear HA
   simp only [impl_ValidConsole.j0] at H
   by_cases c7 : x17_1 = true
   ·subst c7
    rw [if_pos rfl] at H
    have H1 := H
    clear H
    have H := H1
    clear H1
    obtain rfl := Option.some.inj H
    go_wp2
    go_ret
    exact ⟨Qd0_, Qg_ GE251.out⟩
   ·replace c7 := Bool.eq_false_iff.mpr c7
    subst c7
    rw [if_neg (show ¬ (false = true) by decide)] at H
    have H1 := H
    clear H
    have H := H1
    clear H1
    have H' := Aside0.mk H
    clear H
    have hcz8_0 : wc.cell? ⟨gb251, 0, none⟩ = some (.slice A0_0 l0_0.length c0_0) := (blk_cell BK251.out 0).trans rfl
    have hcz8_1 : wc.cell? ⟨gb251, 1, none⟩ = some (.slice A0_1 l0_1.length c0_1) := (blk_cell BK251.out 1).trans rfl
    have hfz8_0 := blk_frozen BK251.out 0
    have hfz8_1 := blk_frozen BK251.out 1
    go_wp2
    go_loopg [21] kj1 (fun kq v21 w' => ∃ (x21_2 : Int), v21 = .int .i64 x21_2 ∧ Aside0 (impl_ValidConsole.l0 kq l0_0 (l0_0.length : Int) x21_2 l0_0 l0_1 = some r) ∧ Aside0 (kq ≤ kj1) ∧ Aside0 (w'.heap[gb251]? = some (.cells #[(.slice A0_0 l0_0.length c0_0), (.slice A0_1 l0_1.length c0_1)] 42 (0, 0))) ∧ Aside0 (Below w.heap.size w w'))
    case atStart => exact ⟨(0), Qc0_, H', ⟨Nat.le_refl _⟩, ⟨Qk_ BK251.out⟩, ⟨Qg_ GE251.out⟩⟩
    case round =>
     clear H'
     try clear c1
     try clear p2
     try clear c4
     try clear c4b0
     try clear c4b1
     try clear c7
     try clear hcz5_0
     try clear hcz5_1
     try clear hcz6_0
     try clear hcz6_1
     try clear hcz8_0
     try clear hcz8_1
     try clear hfz5_0
     try clear hfz5_1
     try clear hfz6_0
     try clear hfz6_1
     try clear hfz8_0
     try clear hfz8_1
     try clear p2
     obtain ⟨x21_2, rfl, HA, HK2, BK251, HB⟩ := hrel
     cases gk with
     | zero => exact absurd HA.out (by simp [impl_ValidConsole.l0])
     | succ k2 =>
      have H := HA.out
      clear HA
      simp only [impl_ValidConsole.l0] at H
      by_cases c9 : x21_2 < (l0_0.length : Int)
      ·rw [if_pos c9] at H
       have c9b0 := decide_eq_true c9
       clear c9
       by_cases c10 : 0 ≤ x21_2
       ·rw [if_pos c10] at H
        have c10b0 := decide_eq_true c10
        clear c10
        by_cases c11 : x21_2 < (l0_0.length : Int)
        ·rw [if_pos c11] at H
         have c11b0 := decide_eq_true c11
         clear c11
         replace H := Option.bind_eq_some_iff.mp H
         obtain ⟨t253, A120, H⟩ := H
         try dsimp only at H
         have A12 := Aside0.mk A120
         clear A120
         by_cases c13 : t253 = true
         ·subst c13
          rw [if_pos rfl] at H
          have H1 := H
          clear H
          have H := H1
          clear H1
          by_cases c14 : x21_2 > 0
          ·rw [if_pos c14] at H
           have c14b0 := decide_eq_true c14
           clear c14
           obtain ⟨ji15, hji15⟩ : ∃ j_ : Int, (wrap64 (x21_2 - 1)) = j_ := ⟨_, rfl⟩
           replace H : (if 0 ≤ (ji15) then (if (ji15) < (l0_0.length : Int) then (if ((Op.bytesLess ((rdOf ByteArray.empty l0_0 (ji15)).toList) ((rdOf ByteArray.empty l0_0 x21_2).toList)) = true) then (if x21_2 < (l0_1.length : Int) then ((impl_IsBits.f (rdOf ByteArray.empty l0_1 x21_2)).bind fun t256 => (if t256 = true then (impl_ValidConsole.l0 k2 l0_0 (l0_0.length : Int) (wrap64 (x21_2 + 1)) l0_0 l0_1) else (some false))) else (none)) else (some false)) else (none)) else (none)) = some r := by first | (rw [hji15] at H; exact H) | (simp only [hji15] at H ⊢; exact H)
           (try rw [hji15] at A12)
           have hji15w : (IntKind.i64.wrap (x21_2 - 1)) = ji15 := (i64_w _).trans hji15
           (try rw [hji15])
           by_cases c16 : 0 ≤ (ji15)
           ·rw [if_pos c16] at H
            have c16b0 := decide_eq_true c16
            clear c16
            by_cases c17 : (ji15) < (l0_0.length : Int)
            ·rw [if_pos c17] at H
             have c17b0 := decide_eq_true c17
             clear c17
             by_cases c18 : ((Op.bytesLess ((rdOf ByteArray.empty l0_0 (ji15)).toList) ((rdOf ByteArray.empty l0_0 x21_2).toList)) = true)
             ·rw [if_pos c18] at H
              have c18b0 : (Op.bytesLess ((rdOf ByteArray.empty l0_0 (ji15)).toList) ((rdOf ByteArray.empty l0_0 x21_2).toList)) = true := c18
              have c18b3 : Op.bytesLess ((rdOf ByteArray.empty l0_0 x21_2).toList) ((rdOf ByteArray.empty l0_0 (ji15)).toList) = false := bl_asymm8 _ _ c18b0
              have c18b4 : (((rdOf ByteArray.empty l0_0 x21_2).toList) == ((rdOf ByteArray.empty l0_0 (ji15)).toList)) = false := bl_ne8 _ _ c18b0
              clear c18
              by_cases c19 : x21_2 < (l0_1.length : Int)
              ·rw [if_pos c19] at H
               have c19b0 := decide_eq_true c19
               clear c19
               replace H := Option.bind_eq_some_iff.mp H
               obtain ⟨t256, A200, H⟩ := H
               try dsimp only at H
               have A20 := Aside0.mk A200
               clear A200
               by_cases c21 : t256 = true
               ·subst c21
                rw [if_pos rfl] at H
                have H1 := H
                clear H
                have H := H1
                clear H1
                have H' := Aside0.mk H
                clear H
                have p252 : 0 ≤ (x21_2 : Int) := of_decide_eq_true Qe0_
                have q252 : x21_2 < (l0_0.length : Int) := of_decide_eq_true Qe0_
                obtain ⟨ad252, e252, hx252_0⟩ := Kd.at_string HR0_0.out x21_2 p252 q252
                cases e252
                replace hx252_0 := (HB.out.cell (World.block_lt_of_cell? w _ hx252_0)).trans hx252_0
                replace p252 := eq_true p252
                replace q252 := eq_true q252
                go_wp2_with (first | ((with_reducible refine gate_callee (f := 51) rfl ?_); refine goesL_ (some 27) rfl rfl Tryz.func51 Qh0_ rfl #[.string (rdOf ByteArray.empty l0_0 x21_2)] rfl Qb0_ ?_; (with_reducible refine (impl_IsName.calls k2 (rdOf ByteArray.empty l0_0 x21_2) true _ A12.out).mono ?_); rintro e w' ⟨rfl, ⟨nd, rfl⟩⟩; refine ⟨_, rfl, ?_⟩; have hcz22_0 : wr.cell? ⟨gb251, 0, none⟩ = some (.slice (some ad252) l0_0.length c0_0) := (blk_cell BK251.out 0).trans rfl; have hcz22_1 : wr.cell? ⟨gb251, 1, none⟩ = some (.slice A0_1 l0_1.length c0_1) := (blk_cell BK251.out 1).trans rfl; have hfz22_0 := blk_frozen BK251.out 0; have hfz22_1 := blk_frozen BK251.out 1; have p254 : 0 ≤ ((ji15) : Int) := of_decide_eq_true Qe0_; have q254 : (ji15) < (l0_0.length : Int) := of_decide_eq_true Qe0_; obtain ⟨ad254, e254, hx254_0⟩ := Kd.at_string HR0_0.out (ji15) p254 q254; obtain rfl : ad252 = ad254 := (by injection e254); replace hx254_0 := (HB.out.cell (World.block_lt_of_cell? w _ hx254_0)).trans hx254_0; replace p254 := eq_true p254; replace q254 := eq_true q254; have p255 : 0 ≤ (x21_2 : Int) := of_decide_eq_true Qe0_; have q255 : x21_2 < (l0_1.length : Int) := of_decide_eq_true Qe0_; obtain ⟨ad255, e255, hx255_0⟩ := Kd.at_string HR0_1.out x21_2 p255 q255; cases e255; replace hx255_0 := (HB.out.cell (World.block_lt_of_cell? w _ hx255_0)).trans hx255_0; replace p255 := eq_true p255; replace q255 := eq_true q255) | (go_at_call 35; (with_reducible refine (impl_IsBits.calls (rdOf ByteArray.empty l0_1 x21_2) true _ A20.out).mono ?_); rintro e w23 ⟨rfl, hb⟩; have n0_ := Aside0.mk (blk_below (g := gb251) (o := .cells #[.slice (some ad252) l0_0.length c0_0, .slice (some ad255) l0_1.length c0_1] 42 (0, 0)) (Qk_ BK251.out) hb); have n1_ := Aside0.mk (below_step (Qg_ GE251.out) hb); clear BK251; clear HB; have BK251 := n0_; have HB := n1_; clear n0_ n1_; (try clear hb); (try clear hb2); (try clear hk); (try clear hi)))
                go_roundg k2
                case measure => have := HJ1.out; have := HK2.out; omega
                case rel => exact ⟨(wrap64 (x21_2 + 1)), Qc0_, H', ⟨by have := HJ1.out; have := HK2.out; omega⟩, ⟨Qk_ BK251.out⟩, ⟨Qg_ GE251.out⟩⟩
               ·replace c21 := Bool.eq_false_iff.mpr c21
                subst c21
                rw [if_neg (show ¬ (false = true) by decide)] at H
                have H1 := H
                clear H
                have H := H1
                clear H1
                obtain rfl := Option.some.inj H
                have p252 : 0 ≤ (x21_2 : Int) := of_decide_eq_true Qe0_
                have q252 : x21_2 < (l0_0.length : Int) := of_decide_eq_true Qe0_
                obtain ⟨ad252, e252, hx252_0⟩ := Kd.at_string HR0_0.out x21_2 p252 q252
                cases e252
                replace hx252_0 := (HB.out.cell (World.block_lt_of_cell? w _ hx252_0)).trans hx252_0
                replace p252 := eq_true p252
                replace q252 := eq_true q252
                go_wp2_with (first | ((with_reducible refine gate_callee (f := 51) rfl ?_); refine goesL_ (some 27) rfl rfl Tryz.func51 Qh0_ rfl #[.string (rdOf ByteArray.empty l0_0 x21_2)] rfl Qb0_ ?_; (with_reducible refine (impl_IsName.calls k2 (rdOf ByteArray.empty l0_0 x21_2) true _ A12.out).mono ?_); rintro e w' ⟨rfl, ⟨nd, rfl⟩⟩; refine ⟨_, rfl, ?_⟩; have hcz24_0 : wr.cell? ⟨gb251, 0, none⟩ = some (.slice (some ad252) l0_0.length c0_0) := (blk_cell BK251.out 0).trans rfl; have hcz24_1 : wr.cell? ⟨gb251, 1, none⟩ = some (.slice A0_1 l0_1.length c0_1) := (blk_cell BK251.out 1).trans rfl; have hfz24_0 := blk_frozen BK251.out 0; have hfz24_1 := blk_frozen BK251.out 1; have p254 : 0 ≤ ((ji15) : Int) := of_decide_eq_true Qe0_; have q254 : (ji15) < (l0_0.length : Int) := of_decide_eq_true Qe0_; obtain ⟨ad254, e254, hx254_0⟩ := Kd.at_string HR0_0.out (ji15) p254 q254; obtain rfl : ad252 = ad254 := (by injection e254); replace hx254_0 := (HB.out.cell (World.block_lt_of_cell? w _ hx254_0)).trans hx254_0; replace p254 := eq_true p254; replace q254 := eq_true q254; have p255 : 0 ≤ (x21_2 : Int) := of_decide_eq_true Qe0_; have q255 : x21_2 < (l0_1.length : Int) := of_decide_eq_true Qe0_; obtain ⟨ad255, e255, hx255_0⟩ := Kd.at_string HR0_1.out x21_2 p255 q255; cases e255; replace hx255_0 := (HB.out.cell (World.block_lt_of_cell? w _ hx255_0)).trans hx255_0; replace p255 := eq_true p255; replace q255 := eq_true q255) | (go_at_call 35; (with_reducible refine (impl_IsBits.calls (rdOf ByteArray.empty l0_1 x21_2) false _ A20.out).mono ?_); rintro e w25 ⟨rfl, hb⟩; have n0_ := Aside0.mk (blk_below (g := gb251) (o := .cells #[.slice (some ad252) l0_0.length c0_0, .slice (some ad255) l0_1.length c0_1] 42 (0, 0)) (Qk_ BK251.out) hb); have n1_ := Aside0.mk (below_step (Qg_ GE251.out) hb); clear BK251; clear HB; have BK251 := n0_; have HB := n1_; clear n0_ n1_; (try clear hb); (try clear hb2); (try clear hk); (try clear hi)))
                go_ret
                exact ⟨by first | rfl | (simp [errW_none, errW_some] <;> rfl) | (simp only [← hji15]; first | rfl | (simp [errW_none, errW_some] <;> rfl)) | (simp [*, errW_none, errW_some] <;> rfl), Qg_ GE251.out⟩
              ·rw [if_neg c19] at H
               exact absurd H (by simp)
             ·rw [if_neg c18] at H
              have c18b0 : (Op.bytesLess ((rdOf ByteArray.empty l0_0 (ji15)).toList) ((rdOf ByteArray.empty l0_0 x21_2).toList)) = false := by simpa using c18
              have c18b3 : (Op.bytesLess ((rdOf ByteArray.empty l0_0 x21_2).toList) ((rdOf ByteArray.empty l0_0 (ji15)).toList) || ((rdOf ByteArray.empty l0_0 x21_2).toList) == ((rdOf ByteArray.empty l0_0 (ji15)).toList)) = true := bl_total8 _ _ c18b0
              clear c18
              obtain rfl := Option.some.inj H
              have p252 : 0 ≤ (x21_2 : Int) := of_decide_eq_true Qe0_
              have q252 : x21_2 < (l0_0.length : Int) := of_decide_eq_true Qe0_
              obtain ⟨ad252, e252, hx252_0⟩ := Kd.at_string HR0_0.out x21_2 p252 q252
              cases e252
              replace hx252_0 := (HB.out.cell (World.block_lt_of_cell? w _ hx252_0)).trans hx252_0
              replace p252 := eq_true p252
              replace q252 := eq_true q252
              go_wp2_with (first | ((with_reducible refine gate_callee (f := 51) rfl ?_); refine goesL_ (some 27) rfl rfl Tryz.func51 Qh0_ rfl #[.string (rdOf ByteArray.empty l0_0 x21_2)] rfl Qb0_ ?_; (with_reducible refine (impl_IsName.calls k2 (rdOf ByteArray.empty l0_0 x21_2) true _ A12.out).mono ?_); rintro e w' ⟨rfl, ⟨nd, rfl⟩⟩; refine ⟨_, rfl, ?_⟩; have hcz26_0 : wr.cell? ⟨gb251, 0, none⟩ = some (.slice (some ad252) l0_0.length c0_0) := (blk_cell BK251.out 0).trans rfl; have hcz26_1 : wr.cell? ⟨gb251, 1, none⟩ = some (.slice A0_1 l0_1.length c0_1) := (blk_cell BK251.out 1).trans rfl; have hfz26_0 := blk_frozen BK251.out 0; have hfz26_1 := blk_frozen BK251.out 1; have p254 : 0 ≤ ((ji15) : Int) := of_decide_eq_true Qe0_; have q254 : (ji15) < (l0_0.length : Int) := of_decide_eq_true Qe0_; obtain ⟨ad254, e254, hx254_0⟩ := Kd.at_string HR0_0.out (ji15) p254 q254; obtain rfl : ad252 = ad254 := (by injection e254); replace hx254_0 := (HB.out.cell (World.block_lt_of_cell? w _ hx254_0)).trans hx254_0; replace p254 := eq_true p254; replace q254 := eq_true q254))
              go_ret
              exact ⟨by first | rfl | (simp [errW_none, errW_some] <;> rfl) | (simp only [← hji15]; first | rfl | (simp [errW_none, errW_some] <;> rfl)) | (simp [*, errW_none, errW_some] <;> rfl), Qg_ GE251.out⟩
            ·rw [if_neg c17] at H
             exact absurd H (by simp)
           ·rw [if_neg c16] at H
            exact absurd H (by simp)
          ·rw [if_neg c14] at H
           have c14b0 := decide_eq_false c14
           clear c14
           by_cases c27 : x21_2 < (l0_1.length : Int)
           ·rw [if_pos c27] at H
            have c27b0 := decide_eq_true c27
            clear c27
            replace H := Option.bind_eq_some_iff.mp H
            obtain ⟨t258, A280, H⟩ := H
            try dsimp only at H
            have A28 := Aside0.mk A280
            clear A280
            by_cases c29 : t258 = true
            ·subst c29
             rw [if_pos rfl] at H
             have H1 := H
             clear H
             have H := H1
             clear H1
             have H' := Aside0.mk H
             clear H
             have p252 : 0 ≤ (x21_2 : Int) := of_decide_eq_true Qe0_
             have q252 : x21_2 < (l0_0.length : Int) := of_decide_eq_true Qe0_
             obtain ⟨ad252, e252, hx252_0⟩ := Kd.at_string HR0_0.out x21_2 p252 q252
             cases e252
             replace hx252_0 := (HB.out.cell (World.block_lt_of_cell? w _ hx252_0)).trans hx252_0
             replace p252 := eq_true p252
             replace q252 := eq_true q252
             go_wp2_with (first | ((with_reducible refine gate_callee (f := 51) rfl ?_); refine goesL_ (some 27) rfl rfl Tryz.func51 Qh0_ rfl #[.string (rdOf ByteArray.empty l0_0 x21_2)] rfl Qb0_ ?_; (with_reducible refine (impl_IsName.calls k2 (rdOf ByteArray.empty l0_0 x21_2) true _ A12.out).mono ?_); rintro e w' ⟨rfl, ⟨nd, rfl⟩⟩; refine ⟨_, rfl, ?_⟩; have hcz30_0 : wr.cell? ⟨gb251, 0, none⟩ = some (.slice (some ad252) l0_0.length c0_0) := (blk_cell BK251.out 0).trans rfl; have hcz30_1 : wr.cell? ⟨gb251, 1, none⟩ = some (.slice A0_1 l0_1.length c0_1) := (blk_cell BK251.out 1).trans rfl; have hfz30_0 := blk_frozen BK251.out 0; have hfz30_1 := blk_frozen BK251.out 1; have p257 : 0 ≤ (x21_2 : Int) := of_decide_eq_true Qe0_; have q257 : x21_2 < (l0_1.length : Int) := of_decide_eq_true Qe0_; obtain ⟨ad257, e257, hx257_0⟩ := Kd.at_string HR0_1.out x21_2 p257 q257; cases e257; replace hx257_0 := (HB.out.cell (World.block_lt_of_cell? w _ hx257_0)).trans hx257_0; replace p257 := eq_true p257; replace q257 := eq_true q257) | (go_at_call 35; (with_reducible refine (impl_IsBits.calls (rdOf ByteArray.empty l0_1 x21_2) true _ A28.out).mono ?_); rintro e w31 ⟨rfl, hb⟩; have n0_ := Aside0.mk (blk_below (g := gb251) (o := .cells #[.slice (some ad252) l0_0.length c0_0, .slice (some ad257) l0_1.length c0_1] 42 (0, 0)) (Qk_ BK251.out) hb); have n1_ := Aside0.mk (below_step (Qg_ GE251.out) hb); clear BK251; clear HB; have BK251 := n0_; have HB := n1_; clear n0_ n1_; (try clear hb); (try clear hb2); (try clear hk); (try clear hi)))
             go_roundg k2
             case measure => have := HJ1.out; have := HK2.out; omega
             case rel => exact ⟨(wrap64 (x21_2 + 1)), Qc0_, H', ⟨by have := HJ1.out; have := HK2.out; omega⟩, ⟨Qk_ BK251.out⟩, ⟨Qg_ GE251.out⟩⟩
            ·replace c29 := Bool.eq_false_iff.mpr c29
             subst c29
             rw [if_neg (show ¬ (false = true) by decide)] at H
             have H1 := H
             clear H
             have H := H1
             clear H1
             obtain rfl := Option.some.inj H
             have p252 : 0 ≤ (x21_2 : Int) := of_decide_eq_true Qe0_
             have q252 : x21_2 < (l0_0.length : Int) := of_decide_eq_true Qe0_
             obtain ⟨ad252, e252, hx252_0⟩ := Kd.at_string HR0_0.out x21_2 p252 q252
             cases e252
             replace hx252_0 := (HB.out.cell (World.block_lt_of_cell? w _ hx252_0)).trans hx252_0
             replace p252 := eq_true p252
             replace q252 := eq_true q252
             go_wp2_with (first | ((with_reducible refine gate_callee (f := 51) rfl ?_); refine goesL_ (some 27) rfl rfl Tryz.func51 Qh0_ rfl #[.string (rdOf ByteArray.empty l0_0 x21_2)] rfl Qb0_ ?_; (with_reducible refine (impl_IsName.calls k2 (rdOf ByteArray.empty l0_0 x21_2) true _ A12.out).mono ?_); rintro e w' ⟨rfl, ⟨nd, rfl⟩⟩; refine ⟨_, rfl, ?_⟩; have hcz32_0 : wr.cell? ⟨gb251, 0, none⟩ = some (.slice (some ad252) l0_0.length c0_0) := (blk_cell BK251.out 0).trans rfl; have hcz32_1 : wr.cell? ⟨gb251, 1, none⟩ = some (.slice A0_1 l0_1.length c0_1) := (blk_cell BK251.out 1).trans rfl; have hfz32_0 := blk_frozen BK251.out 0; have hfz32_1 := blk_frozen BK251.out 1; have p257 : 0 ≤ (x21_2 : Int) := of_decide_eq_true Qe0_; have q257 : x21_2 < (l0_1.length : Int) := of_decide_eq_true Qe0_; obtain ⟨ad257, e257, hx257_0⟩ := Kd.at_string HR0_1.out x21_2 p257 q257; cases e257; replace hx257_0 := (HB.out.cell (World.block_lt_of_cell? w _ hx257_0)).trans hx257_0; replace p257 := eq_true p257; replace q257 := eq_true q257) | (go_at_call 35; (with_reducible refine (impl_IsBits.calls (rdOf ByteArray.empty l0_1 x21_2) false _ A28.out).mono ?_); rintro e w33 ⟨rfl, hb⟩; have n0_ := Aside0.mk (blk_below (g := gb251) (o := .cells #[.slice (some ad252) l0_0.length c0_0, .slice (some ad257) l0_1.length c0_1] 42 (0, 0)) (Qk_ BK251.out) hb); have n1_ := Aside0.mk (below_step (Qg_ GE251.out) hb); clear BK251; clear HB; have BK251 := n0_; have HB := n1_; clear n0_ n1_; (try clear hb); (try clear hb2); (try clear hk); (try clear hi)))
             go_ret
             exact ⟨Qd0_, Qg_ GE251.out⟩
           ·rw [if_neg c27] at H
            exact absurd H (by simp)
         ·replace c13 := Bool.eq_false_iff.mpr c13
          subst c13
          rw [if_neg (show ¬ (false = true) by decide)] at H
          have H1 := H
          clear H
          have H := H1
          clear H1
          obtain rfl := Option.some.inj H
          have p252 : 0 ≤ (x21_2 : Int) := of_decide_eq_true Qe0_
          have q252 : x21_2 < (l0_0.length : Int) := of_decide_eq_true Qe0_
          obtain ⟨ad252, e252, hx252_0⟩ := Kd.at_string HR0_0.out x21_2 p252 q252
          cases e252
          replace hx252_0 := (HB.out.cell (World.block_lt_of_cell? w _ hx252_0)).trans hx252_0
          replace p252 := eq_true p252
          replace q252 := eq_true q252
          go_wp2_with (first | ((with_reducible refine gate_callee (f := 51) rfl ?_); refine goesL_ (some 27) rfl rfl Tryz.func51 Qh0_ rfl #[.string (rdOf ByteArray.empty l0_0 x21_2)] rfl Qb0_ ?_; (with_reducible refine (impl_IsName.calls k2 (rdOf ByteArray.empty l0_0 x21_2) false _ A12.out).mono ?_); rintro e w' ⟨rfl, ⟨nd, rfl⟩⟩; refine ⟨_, rfl, ?_⟩))
          go_ret
          exact ⟨Qd0_, Qg_ GE251.out⟩
        ·rw [if_neg c11] at H
         exact absurd H (by simp)
       ·rw [if_neg c10] at H
        exact absurd H (by simp)
      ·rw [if_neg c9] at H
       have c9b0 := decide_eq_false c9
       clear c9
       obtain rfl := Option.some.inj H
       go_wp2
       go_ret
       exact ⟨Qd0_, Qg_ GE251.out⟩
def kmD (kv : List (ByteArray × ByteArray)) : DataW Unit := kv.foldl (fun D p => D.put (.string p.1.data.toList) (.lit (.string p.2.data.toList))) (.map [])
def kmGet (kv : List (ByteArray × ByteArray)) (x : ByteArray) : ByteArray × Bool := kv.foldl (fun r p => if p.1 = x then (p.2, true) else r) ((⟨#[]⟩ : ByteArray), false)
def kmAt (w : World) (m : Nat) (kv : List (ByteArray × ByteArray)) : Prop := w.ownsMap Tryz.prog 9 (plainElem (H := Unit) Tryz.prog 9) m kv.length (kmD kv)
theorem km_snoc (kv : List (ByteArray × ByteArray)) (p : ByteArray × ByteArray) : kmD (kv ++ [p]) = (kmD kv).put (.string p.1.data.toList) (.lit (.string p.2.data.toList)) := by unfold kmD; rw [List.foldl_append]; rfl
theorem km_look (x : ByteArray) (kv : List (ByteArray × ByteArray)) : ∀ (D : DataW Unit) (r : ByteArray × Bool), Go.Maps.IsMap D → Go.Maps.has D (.string x.data.toList) = r.2 → D.atKey (.string x.data.toList) (.lit (.string [])) = .lit (.string r.1.data.toList) →
 Go.Maps.has (kv.foldl (fun D p => D.put (.string p.1.data.toList) (.lit (.string p.2.data.toList))) D) (.string x.data.toList) = (kv.foldl (fun r p => if p.1 = x then (p.2, true) else r) r).2 ∧ (kv.foldl (fun D p => D.put (.string p.1.data.toList) (.lit (.string p.2.data.toList))) D).atKey (.string x.data.toList) (.lit (.string [])) = .lit (.string (kv.foldl (fun r p => if p.1 = x then (p.2, true) else r) r).1.data.toList) := by
 induction kv with
 | nil => exact fun D r _ h1 h2 => ⟨h1, h2⟩
 | cons p l ih =>
  intro D r hD h1 h2
  rw [List.foldl_cons, List.foldl_cons]
  by_cases h : p.1 = x
  ·rw [if_pos h]
   refine ih _ _ (hD.put _ _) ?_ ?_
   ·rw [h]; exact Go.Maps.has_put_same hD (by first | trivial | exact ⟨_, rfl⟩ | simp [Go.WideAt.IsKeyLit]) _
   ·rw [h]; exact Go.Maps.atKey_put_same hD (by first | trivial | exact ⟨_, rfl⟩ | simp [Go.WideAt.IsKeyLit]) _ _
  ·have hne : (Lit.string x.data.toList) ≠ (Lit.string p.1.data.toList) := fun e => h (by injection e with e; exact ByteArray.ext (Array.ext' e.symm))
   rw [if_neg h]
   refine ih _ _ (hD.put _ _) ?_ ?_
   ·rw [Go.Maps.has_put_other hne]; exact h1
   ·rw [Go.Maps.atKey_put_other hne]; exact h2
theorem ml_ {n : Nat} (h : n ≤ 100) : n ≤ maxLen := by unfold maxLen; omega
theorem km_put {w : World} {m : Nat} {kv : List (ByteArray × ByteArray)} (h : kmAt w m kv) (hk : kv.length < 1000) (x y : ByteArray) (hx : x.size ≤ maxLen) (hy : y.size ≤ maxLen) :
 ∃ w1, (Instr.mapUpdate 120 (.map (some m)) (.string x) (.string y)).run Tryz.prog w = .ok () w1 ∧ kmAt w1 m (kv ++ [(x, y)]) ∧ w.grownBy w1 (some m) := by
 have h2 : w.ownsMap Tryz.prog 9 (plainElem (H := Unit) Tryz.prog 9) m kv.length (kmD kv) := h
 obtain ⟨w1, e1, e2, e3⟩ := h2.update (Go.Maps.string_keyed Tryz.underlying9) Tryz.underlying120 (by unfold maxLen; omega) (key := .string x) (val := .string y) (kl := .string x.data.toList) (d := .lit (.string y.data.toList)) (ps := []) (Go.WideMaps.keyOf_string_mk Tryz.underlying9 hx) (plainElem_string Tryz.underlying9 hy)
 refine ⟨w1, e1, ?_, e3⟩
 unfold kmAt
 rw [km_snoc, List.length_append, List.length_singleton]
 exact e2
theorem km_inv {P : Program} {e : TypeId} (he : P.underlying e = some .string) {v : Value} {s : List UInt8} {ps : List MemPlace} (h : plainElem (H := Unit) P e v = some (.lit (.string s), ps)) : ∃ x : ByteArray, v = .string x ∧ x.data.toList = s := by
 unfold plainElem at h
 rw [he] at h
 cases v <;> simp at h
 exact ⟨_, rfl, h.2.1⟩
theorem km_get {w : World} {m : Nat} {kv : List (ByteArray × ByteArray)} (h : kmAt w m kv) (x : ByteArray) (hx : x.size ≤ maxLen) : (Instr.lookup 120 (.map (some m)) (.string x) true).run Tryz.prog w = .ok (.tuple #[.string (kmGet kv x).1, .bool (kmGet kv x).2]) w := by
 obtain ⟨v, ps, e1, e2⟩ := World.ownsMap.look_ok h (Go.Maps.string_keyed Tryz.underlying9) Tryz.underlying120 (z := .string ⟨#[]⟩) (Tryz.zeroValue9 _) (zd := .lit (.string [])) (zp := []) (plainElem_string Tryz.underlying9 (ml_ (by decide))) (key := .string x) (kl := .string x.data.toList) (Go.WideMaps.keyOf_string_mk Tryz.underlying9 hx)
 have hl := km_look x kv (.map []) ((⟨#[]⟩ : ByteArray), false) Go.Maps.isMap_empty rfl rfl
 have h1 : Go.Maps.has (kmD kv) (.string x.data.toList) = (kmGet kv x).2 := hl.1
 have h2 : (kmD kv).atKey (.string x.data.toList) (.lit (.string [])) = .lit (.string (kmGet kv x).1.data.toList) := hl.2
 rw [h1] at e1
 rw [h2] at e2
 obtain ⟨y, rfl, hy⟩ := km_inv Tryz.underlying9 e2
 rw [show y = (kmGet kv x).1 from ByteArray.ext (Array.ext' hy)] at e1
 exact e1
theorem kg_trans {w w1 w2 : World} {row : Option Nat} (h : w.grownBy w1 row) (h2 : w1.grownBy w2 row) : w.grownBy w2 row := ⟨h2.os.trans h.os, h2.tape.trans h.tape, h2.output.trans h.output, Nat.le_trans h.size h2.size, fun k hk hne => (h2.block k (Nat.lt_of_lt_of_le hk h.size) hne).trans (h.block k hk hne)⟩
def kindsL : List (ByteArray × ByteArray) := [((⟨#[115, 101, 116]⟩ : ByteArray), (⟨#[87, 66]⟩ : ByteArray)), ((⟨#[100, 114, 111, 112]⟩ : ByteArray), (⟨#[65]⟩ : ByteArray)), ((⟨#[115, 104, 111, 119]⟩ : ByteArray), (⟨#[65]⟩ : ByteArray)), ((⟨#[102, 108, 105, 112]⟩ : ByteArray), (⟨#[65, 78]⟩ : ByteArray)), ((⟨#[98, 108, 111, 99, 107, 115]⟩ : ByteArray), (⟨#[87, 78, 78, 78, 76]⟩ : ByteArray)), ((⟨#[100, 97, 116, 97]⟩ : ByteArray), (⟨#[65, 78, 78, 78]⟩ : ByteArray)), ((⟨#[108, 97, 121]⟩ : ByteArray), (⟨#[87, 65, 78, 78]⟩ : ByteArray)), ((⟨#[117, 110, 108, 97, 121]⟩ : ByteArray), (⟨#[87, 65, 78, 78]⟩ : ByteArray)), ((⟨#[99, 104, 101, 99, 107]⟩ : ByteArray), (⟨#[87, 65, 78]⟩ : ByteArray)), ((⟨#[118, 101, 114, 105, 102, 121]⟩ : ByteArray), (⟨#[65, 78]⟩ : ByteArray)), ((⟨#[114, 101, 112, 101, 97, 116]⟩ : ByteArray), (⟨#[87, 65, 78]⟩ : ByteArray)), ((⟨#[118, 111, 116, 101]⟩ : ByteArray), (⟨#[87, 65, 78]⟩ : ByteArray)), ((⟨#[99, 108, 111, 99, 107]⟩ : ByteArray), (⟨#[87, 65, 78, 78]⟩ : ByteArray))]
def impl_kindsOf.f (a0 : ByteArray) : Option (ByteArray × Bool) := if a0.size ≤ maxLen then some (kmGet kindsL a0) else none
set_option maxHeartbeats 8000000 in
set_option maxRecDepth 100000 in
theorem impl_kindsOf.calls (a0 : ByteArray) (r0 : ByteArray) (r1 : Bool) (w : World) (h : impl_kindsOf.f a0 = some (r0, r1)) :
 Calls Tryz.prog 73 #[.string a0] w fun e w' => e = .returned (.tuple #[.string r0, .bool r1]) ∧ Below w.heap.size w w' := by
 unfold impl_kindsOf.f at h
 by_cases hs : a0.size ≤ maxLen
 rotate_left
 ·rw [if_neg hs] at h; cases h
 rw [if_pos hs] at h
 have hmm := @run_makeMap Tryz.prog
 obtain ⟨m, hm⟩ : ∃ m : Nat, m = w.heap.size := ⟨_, rfl⟩
 have s0 : kmAt (w.alloc (.map #[] 0)) m [] := by rw [hm]; exact World.ownsMap_made _ _ _ _
 have g0 : w.grownBy (w.alloc (.map #[] 0)) (some m) := World.grownBy_alloc w _ _
 obtain ⟨w1, u1, s1, gg1⟩ := km_put s0 (by decide) (⟨#[115, 101, 116]⟩ : ByteArray) (⟨#[87, 66]⟩ : ByteArray) (ml_ (show _ ≤ 100 from by decide)) (ml_ (show _ ≤ 100 from by decide))
 replace s1 : kmAt w1 m (kindsL.take 1) := s1
 have g1 : w.grownBy w1 (some m) := kg_trans g0 gg1
 clear gg1
 obtain ⟨w2, u2, s2, gg2⟩ := km_put s1 (by decide) (⟨#[100, 114, 111, 112]⟩ : ByteArray) (⟨#[65]⟩ : ByteArray) (ml_ (show _ ≤ 100 from by decide)) (ml_ (show _ ≤ 100 from by decide))
 replace s2 : kmAt w2 m (kindsL.take 2) := s2
 have g2 : w.grownBy w2 (some m) := kg_trans g1 gg2
 clear gg2
 obtain ⟨w3, u3, s3, gg3⟩ := km_put s2 (by decide) (⟨#[115, 104, 111, 119]⟩ : ByteArray) (⟨#[65]⟩ : ByteArray) (ml_ (show _ ≤ 100 from by decide)) (ml_ (show _ ≤ 100 from by decide))
 replace s3 : kmAt w3 m (kindsL.take 3) := s3
 have g3 : w.grownBy w3 (some m) := kg_trans g2 gg3
 clear gg3
 obtain ⟨w4, u4, s4, gg4⟩ := km_put s3 (by decide) (⟨#[102, 108, 105, 112]⟩ : ByteArray) (⟨#[65, 78]⟩ : ByteArray) (ml_ (show _ ≤ 100 from by decide)) (ml_ (show _ ≤ 100 from by decide))
 replace s4 : kmAt w4 m (kindsL.take 4) := s4
 have g4 : w.grownBy w4 (some m) := kg_trans g3 gg4
 clear gg4
 obtain ⟨w5, u5, s5, gg5⟩ := km_put s4 (by decide) (⟨#[98, 108, 111, 99, 107, 115]⟩ : ByteArray) (⟨#[87, 78, 78, 78, 76]⟩ : ByteArray) (ml_ (show _ ≤ 100 from by decide)) (ml_ (show _ ≤ 100 from by decide))
 replace s5 : kmAt w5 m (kindsL.take 5) := s5
 have g5 : w.grownBy w5 (some m) := kg_trans g4 gg5
 clear gg5
 obtain ⟨w6, u6, s6, gg6⟩ := km_put s5 (by decide) (⟨#[100, 97, 116, 97]⟩ : ByteArray) (⟨#[65, 78, 78, 78]⟩ : ByteArray) (ml_ (show _ ≤ 100 from by decide)) (ml_ (show _ ≤ 100 from by decide))
 replace s6 : kmAt w6 m (kindsL.take 6) := s6
 have g6 : w.grownBy w6 (some m) := kg_trans g5 gg6
 clear gg6
 obtain ⟨w7, u7, s7, gg7⟩ := km_put s6 (by decide) (⟨#[108, 97, 121]⟩ : ByteArray) (⟨#[87, 65, 78, 78]⟩ : ByteArray) (ml_ (show _ ≤ 100 from by decide)) (ml_ (show _ ≤ 100 from by decide))
 replace s7 : kmAt w7 m (kindsL.take 7) := s7
 have g7 : w.grownBy w7 (some m) := kg_trans g6 gg7
 clear gg7
 obtain ⟨w8, u8, s8, gg8⟩ := km_put s7 (by decide) (⟨#[117, 110, 108, 97, 121]⟩ : ByteArray) (⟨#[87, 65, 78, 78]⟩ : ByteArray) (ml_ (show _ ≤ 100 from by decide)) (ml_ (show _ ≤ 100 from by decide))
 replace s8 : kmAt w8 m (kindsL.take 8) := s8
 have g8 : w.grownBy w8 (some m) := kg_trans g7 gg8
 clear gg8
 obtain ⟨w9, u9, s9, gg9⟩ := km_put s8 (by decide) (⟨#[99, 104, 101, 99, 107]⟩ : ByteArray) (⟨#[87, 65, 78]⟩ : ByteArray) (ml_ (show _ ≤ 100 from by decide)) (ml_ (show _ ≤ 100 from by decide))
 replace s9 : kmAt w9 m (kindsL.take 9) := s9
 have g9 : w.grownBy w9 (some m) := kg_trans g8 gg9
 clear gg9
 obtain ⟨w10, u10, s10, gg10⟩ := km_put s9 (by decide) (⟨#[118, 101, 114, 105, 102, 121]⟩ : ByteArray) (⟨#[65, 78]⟩ : ByteArray) (ml_ (show _ ≤ 100 from by decide)) (ml_ (show _ ≤ 100 from by decide))
 replace s10 : kmAt w10 m (kindsL.take 10) := s10
 have g10 : w.grownBy w10 (some m) := kg_trans g9 gg10
 clear gg10
 obtain ⟨w11, u11, s11, gg11⟩ := km_put s10 (by decide) (⟨#[114, 101, 112, 101, 97, 116]⟩ : ByteArray) (⟨#[87, 65, 78]⟩ : ByteArray) (ml_ (show _ ≤ 100 from by decide)) (ml_ (show _ ≤ 100 from by decide))
 replace s11 : kmAt w11 m (kindsL.take 11) := s11
 have g11 : w.grownBy w11 (some m) := kg_trans g10 gg11
 clear gg11
 obtain ⟨w12, u12, s12, gg12⟩ := km_put s11 (by decide) (⟨#[118, 111, 116, 101]⟩ : ByteArray) (⟨#[87, 65, 78]⟩ : ByteArray) (ml_ (show _ ≤ 100 from by decide)) (ml_ (show _ ≤ 100 from by decide))
 replace s12 : kmAt w12 m (kindsL.take 12) := s12
 have g12 : w.grownBy w12 (some m) := kg_trans g11 gg12
 clear gg12
 obtain ⟨w13, u13, s13, gg13⟩ := km_put s12 (by decide) (⟨#[99, 108, 111, 99, 107]⟩ : ByteArray) (⟨#[87, 65, 78, 78]⟩ : ByteArray) (ml_ (show _ ≤ 100 from by decide)) (ml_ (show _ ≤ 100 from by decide))
 replace s13 : kmAt w13 m (kindsL.take 13) := s13
 have g13 : w.grownBy w13 (some m) := kg_trans g12 gg13
 clear gg13
 have hlk := km_get s13 a0 hs
 rw [show kindsL.take 13 = kindsL from rfl, show kmGet kindsL a0 = (r0, r1) from Option.some.inj h] at hlk
 have hb : Below w.heap.size w w13 := (Below.refl _ _).grown g13 (Nat.le_refl _) (fun k e => by cases e; omega)
 have HB := Aside0.mk hb
 clear hb h hs s0 g0 s1 g1 s2 g2 s3 g3 s4 g4 s5 g5 s6 g6 s7 g7 s8 g8 s9 g9 s10 g10 s11 g11 s12 g12 s13 g13
 subst hm
 go_enter Tryz.func73, Tryz.ntmps73
 go_wp2
 go_ret2
 exact ⟨Qc0_, HB.out⟩
def impl_copyConsole.f (l0_0 : List ByteArray) (l0_1 : List ByteArray) : Option (List ByteArray × List ByteArray) := (slices_Clone_string_string.f l0_0).bind fun t261 => ((slices_Clone_string_string.f l0_1).bind fun t264 => (some (t261, t264)))
def impl_copyConsole.T1 : Bool × List (List Nat × List Nat) := (true, [([], []), ([0], [0]), ([1], [1]), ([], []), ([3], [3]), ([4, 2], [4]), ([2, 5], [2, 5]), ([6, 5, 0, 1, 2, 3, 4, 5, 6], [6])])
def impl_copyConsole.B1 : List Nat := [0, 1, 3, 0, 8, 31, 63, 127]
theorem impl_copyConsole.tab1 : rtab .any (opsOf Tryz.f49 1) = impl_copyConsole.T1 := by kernel_rfl
theorem impl_copyConsole.bits1 : waitsOk impl_copyConsole.T1.2 impl_copyConsole.B1 = true := by kernel_rfl
set_option maxHeartbeats 8000000 in
set_option maxRecDepth 100000 in
theorem impl_copyConsole.calls (A0_0 : Option Addr) (c0_0 : Nat) (l0_0 : List ByteArray) (A0_1 : Option Addr) (c0_1 : Nat) (l0_1 : List ByteArray) (r1 : List ByteArray) (r2 : List ByteArray) (w : World) (hr0_0 : Kd.C Kd.string w A0_0 l0_0.length l0_0) (hc0_0 : l0_0.length ≤ c0_0) (hr0_1 : Kd.C Kd.string w A0_1 l0_1.length l0_1) (hc0_1 : l0_1.length ≤ c0_1) (h : impl_copyConsole.f l0_0 l0_1 = some (r1, r2)) :
 Calls Tryz.prog 49 #[.agg #[.slice A0_0 l0_0.length c0_0, .slice A0_1 l0_1.length c0_1]] w fun e w' => ∃ v0_ v1_ : Value, e = .returned (.agg #[v0_, v1_]) ∧ Kd.R Kd.string 9 w' w.heap.size (fun k_ => some k_ ≠ (v1_ : Value).ownBlock) v0_ r1 ∧ Kd.R Kd.string 9 w' w.heap.size (fun k_ => some k_ ≠ (v0_ : Value).ownBlock) v1_ r2 ∧ Below w.heap.size w w' := by
 have hu42 := Tryz.underlying42
 have HR0_0 := Aside0.mk hr0_0
 have HC0_0 := Aside0.mk hc0_0
 clear hr0_0 hc0_0
 have HR0_1 := Aside0.mk hr0_1
 have HC0_1 := Aside0.mk hc0_1
 clear hr0_1 hc0_1
 have HB := Aside0.mk (Below.refl w.heap.size w)
 have H : ((slices_Clone_string_string.f l0_0).bind fun t261 => ((slices_Clone_string_string.f l0_1).bind fun t264 => (some (t261, t264)))) = some (r1, r2) := h
 clear h
 replace H := Option.bind_eq_some_iff.mp H
 obtain ⟨t261, A20, H⟩ := H
 try dsimp only at H
 have A2 := Aside0.mk A20
 clear A20
 replace H := Option.bind_eq_some_iff.mp H
 obtain ⟨t264, A30, H⟩ := H
 try dsimp only at H
 have A3 := Aside0.mk A30
 clear A30
 simp only [Option.some.injEq, Prod.mk.injEq] at H
 obtain ⟨rfl, rfl⟩ := H
 go_enter Tryz.func49, Tryz.ntmps49
 try go_wp2_with (first | ((with_reducible refine gate_dst (N := 1) rfl ?_); refine box_event ?hg (N := 1) ?hd (cs := #[.slice A0_0 l0_0.length c0_0, .slice A0_1 l0_1.length c0_1]) (t := 42) ?hr ?_; (case hd => rfl); (case hg => rfl); (case hr => exact Qg0_); intro gb259 hg w4 hbox hb; have n0_ := Aside0.mk (below_step Qa0_ hb); have n1_ := Aside0.mk (hbox); have n2_ := Aside0.mk ((Qp1_ : w.heap.size ≤ gb259)); have n3_ := Aside0.mk ((Qp1_ : w.heap.size ≤ gb259)); clear HB; have HB := n0_; have BK259 := n1_; have GW259 := n2_; have GE259 := n3_; clear n0_ n1_ n2_ n3_; clear hb hbox hg) | ((with_reducible refine gate_dst (N := 2) rfl ?_); refine box_event ?hg (N := 2) ?hd (cs := #[.slice none 0 0, .slice none 0 0]) (t := 42) ?hr ?_; (case hd => rfl); (case hg => rfl); (case hr => exact Qg0_); intro gb260 hg w5 hbox hb; have n0_ := Aside0.mk (blk_below (g := gb259) (o := .cells #[.slice A0_0 l0_0.length c0_0, .slice A0_1 l0_1.length c0_1] 42 (0, 0)) (Qk_ BK259.out) hb); have n1_ := Aside0.mk (below_step (Qg_ GE259.out) hb); have n2_ := Aside0.mk (hbox); have n3_ := Aside0.mk ((by rw [hg]; exact (below_size (Qg_ GE259.out)) : w.heap.size ≤ gb260)); have n4_ := Aside0.mk ((by rw [hg]; exact (below_size (Qg_ GE259.out)) : w.heap.size ≤ gb260)); have n5_ := Aside0.mk ((by rw [hg]; exact Nat.ne_of_lt (blk_lt (g := gb259) (o := .cells #[.slice A0_0 l0_0.length c0_0, .slice A0_1 l0_1.length c0_1] 42 (0, 0)) (Qk_ BK259.out)) : gb259 ≠ gb260)); have n6_ := Aside0.mk ((by rw [hg]; exact Nat.ne_of_gt (blk_lt (g := gb259) (o := .cells #[.slice A0_0 l0_0.length c0_0, .slice A0_1 l0_1.length c0_1] 42 (0, 0)) (Qk_ BK259.out)) : gb260 ≠ gb259)); clear BK259; clear HB; have BK259 := n0_; have HB := n1_; have BK260 := n2_; have GW260 := n3_; have GE260 := n4_; have NB259_260 := n5_; have NB260_259 := n6_; clear n0_ n1_ n2_ n3_ n4_ n5_ n6_; clear hb hbox hg))
 have n0_ := Aside0.mk (blk_drew BK259.out)
 have n1_ := Aside0.mk (blk_drew BK260.out)
 have n2_ := Aside0.mk (below_drew1 HB.out)
 clear BK259
 clear BK260
 clear HB
 have BK259 := n0_
 have BK260 := n1_
 have HB := n2_
 clear n0_ n1_ n2_
 refine start_ (n := 8) (S := fun w' => w'.cell? ⟨gb259, 0, none⟩ = some (.slice A0_0 l0_0.length c0_0) ∧ w'.cell? ⟨gb259, 1, none⟩ = some (.slice A0_1 l0_1.length c0_1)) (ds := []) #[false, false, false, false, false, false, false, false] Qh0_ rfl rfl ⟨(blk_cell BK259.out 0).trans rfl, (blk_cell BK259.out 1).trans rfl⟩ (fun hHeld => ?_); refine with_tabW impl_copyConsole.tab1 impl_copyConsole.bits1 (fun HT_ HW_ => ?_)
 generalize w5.drew = w6 at BK259 BK260 HB hHeld ⊢
 refine pure_ (i := 0) (N := some 3) (v := ?_) (a' := ?_) #[true, false, false, false, false, false, false, false] rfl rfl (any_of HT_.out Qh0_) (fun _ _ _ h => h) (Or.inl ⟨by rfl, ?_⟩) ?_ ?_
 rotate_left
 ·intro w'
  go_simp
  with_reducible rfl
 rotate_left
 ·simp only [Act.put, List.setIfInBounds_toArray, List.set_cons_zero, List.set_cons_succ, i64_w, i32_w]
  rfl
 refine pure_ (i := 3) (N := some 6) (v := ?_) (a' := ?_) #[true, false, false, true, false, false, false, false] rfl rfl (any_of HT_.out Qh0_) (fun _ _ _ h => h) (Or.inl ⟨by rfl, ?_⟩) ?_ ?_
 rotate_left
 ·intro w'
  go_simp
  with_reducible rfl
 rotate_left
 ·simp only [Act.put, List.setIfInBounds_toArray, List.set_cons_zero, List.set_cons_succ, i64_w, i32_w]
  rfl
 refine take_ (i := 1) (N := some 4) (v := ?_) (a' := ?_) #[true, true, false, true, false, false, false, false] rfl rfl (take_ofW HT_.out HW_.out Qh0_) (fun _ _ _ h => h) (Or.inl ⟨by rfl, ?_⟩) hHeld ?_ ?_
 rotate_left
 ·rintro w' ⟨s0, s1⟩
  go_simp
  with_reducible rfl
 rotate_left
 ·simp only [Act.put, List.setIfInBounds_toArray, List.set_cons_zero, List.set_cons_succ, i64_w, i32_w]
  rfl
 refine take_ (i := 4) (N := some 7) (v := ?_) (a' := ?_) #[true, true, false, true, true, false, false, false] rfl rfl (take_ofW HT_.out HW_.out Qh0_) (fun _ _ _ h => h) (Or.inl ⟨by rfl, ?_⟩) hHeld ?_ ?_
 rotate_left
 ·rintro w' ⟨s0, s1⟩
  go_simp
  with_reducible rfl
 rotate_left
 ·simp only [Act.put, List.setIfInBounds_toArray, List.set_cons_zero, List.set_cons_succ, i64_w, i32_w]
  rfl
 refine one_ (i := 2) (N := some 5) #[true, true, true, true, true, false, false, false] rfl rfl (one_of HT_.out Qh0_) (by decide) (fun K hK => ?_)
 refine goes_ Tryz.func22 Qh0_ rfl #[.slice A0_0 l0_0.length c0_0] (by rfl) rfl rfl Qb0_ ?_
 with_reducible refine (slices_Clone_string_string.calls _ _ l0_0 t261 _ ?side1 ?side2 A2.out).mono ?_
 (case side1 => repeat (first | exact (Kd.C_below HR0_0.out HB.out) | (with_reducible refine Kd.C_alloc ?_ _) | (with_reducible refine Kd.C_drewN ?_ _) | (with_reducible refine Kd.C_drew ?_)))
 (case side2 => exact HC0_0.out)
 rintro e w7 ⟨v262, rfl, ho0, hb⟩
 refine ⟨_, rfl, ?_⟩
 have n0_ := Aside0.mk (Kd.R_lower ho0 (below_size Qx0_))
 have n1_ := Aside0.mk (blk_below (g := gb259) (o := .cells #[.slice A0_0 l0_0.length c0_0, .slice A0_1 l0_1.length c0_1] 42 (0, 0)) (Qk_ BK259.out) hb)
 have n2_ := Aside0.mk (blk_below (g := gb260) (o := .cells #[.slice none 0 0, .slice none 0 0] 42 (0, 0)) (Qk_ BK260.out) hb)
 have n3_ := Aside0.mk (below_step Qx0_ hb)
 clear BK259
 clear BK260
 clear HB
 have HO263 := n0_
 have BK259 := n1_
 have BK260 := n2_
 have HB := n3_
 clear n0_ n1_ n2_ n3_
 (try clear hb)
 (try clear hb2)
 (try clear hk)
 (try clear hi)
 (try clear ho0)
 refine hK.out _ _ ⟨(blk_cell BK259.out 0).trans rfl, (blk_cell BK259.out 1).trans rfl⟩ (fun hHeld => ?_)
 clear hK K
 refine norm_ (a' := ?_) ?_ ?_
 rotate_left
 ·show Act.put _ (some 5) _ = _
  simp only [Act.put, List.setIfInBounds_toArray, List.set_cons_zero, List.set_cons_succ, i64_w, i32_w]
  rfl
 refine one_ (i := 5) (N := some 8) #[true, true, true, true, true, true, false, false] rfl rfl (one_of HT_.out Qh0_) (by decide) (fun K hK => ?_)
 refine goes_ Tryz.func22 Qh0_ rfl #[.slice A0_1 l0_1.length c0_1] (by rfl) rfl rfl Qb0_ ?_
 with_reducible refine (slices_Clone_string_string.calls _ _ l0_1 t264 _ ?side1 ?side2 A3.out).mono ?_
 (case side1 => repeat (first | exact (Kd.C_below HR0_1.out HB.out) | (with_reducible refine Kd.C_alloc ?_ _) | (with_reducible refine Kd.C_drewN ?_ _) | (with_reducible refine Kd.C_drew ?_)))
 (case side2 => exact HC0_1.out)
 rintro e w8 ⟨v265, rfl, ho0, hb⟩
 refine ⟨_, rfl, ?_⟩
 have n0_ := Aside0.mk (Kd.R_elder' (Qr_ HO263.out) (Kd.R_base ho0) hb)
 have n1_ := Aside0.mk (Kd.R_lower (Kd.R_new' ho0 (Kd.R_lt (Qr_ HO263.out))) (below_size Qx0_))
 have n2_ := Aside0.mk (blk_below (g := gb259) (o := .cells #[.slice A0_0 l0_0.length c0_0, .slice A0_1 l0_1.length c0_1] 42 (0, 0)) (Qk_ BK259.out) hb)
 have n3_ := Aside0.mk (blk_below (g := gb260) (o := .cells #[.slice none 0 0, .slice none 0 0] 42 (0, 0)) (Qk_ BK260.out) hb)
 have n4_ := Aside0.mk (below_step Qx0_ hb)
 clear HO263
 clear BK259
 clear BK260
 clear HB
 have HO263 := n0_
 have HO266 := n1_
 have BK259 := n2_
 have BK260 := n3_
 have HB := n4_
 clear n0_ n1_ n2_ n3_ n4_
 (try clear hb)
 (try clear hb2)
 (try clear hk)
 (try clear hi)
 (try clear ho0)
 obtain ⟨Ao9, co9, eo9⟩ := Kd.R_slice HO266.out
 (first | subst eo9 | (injection eo9 with f1_ f2_ f3_; have f4_ := f1_.symm; have f5_ := f3_.symm; clear f1_ f2_ f3_; subst f4_; subst f5_))
 obtain ⟨Ao10, co10, eo10⟩ := Kd.R_slice HO263.out
 (first | subst eo10 | (injection eo10 with f1_ f2_ f3_; have f4_ := f1_.symm; have f5_ := f3_.symm; clear f1_ f2_ f3_; subst f4_; subst f5_))
 refine hK.out _ _ ⟨(blk_cell BK259.out 0).trans rfl, (blk_cell BK259.out 1).trans rfl⟩ (fun hHeld => ?_)
 clear hK K
 refine norm_ (a' := ?_) ?_ ?_
 rotate_left
 ·show Act.put _ (some 8) _ = _
  simp only [Act.put, List.setIfInBounds_toArray, List.set_cons_zero, List.set_cons_succ, i64_w, i32_w]
  rfl
 refine pure_ (i := 6) (N := some 9) (v := ?_) (a' := ?_) #[true, true, true, true, true, true, true, false] rfl rfl (any_of HT_.out Qh0_) (fun _ _ _ h => h) (Or.inl ⟨by rfl, ?_⟩) ?_ ?_
 rotate_left
 ·intro w'
  go_simp
  with_reducible rfl
 rotate_left
 ·simp only [Act.put, List.setIfInBounds_toArray, List.set_cons_zero, List.set_cons_succ, i64_w, i32_w]
  rfl
 refine one_ (i := 7) (N := none) #[true, true, true, true, true, true, true, true] rfl rfl (one_of HT_.out Qh0_) (by decide) (fun K hK => ?_)
 have hs11 : w8.cell? ⟨gb260, 0, none⟩ = some (.slice none 0 0) := (blk_cell BK260.out 0).trans rfl
 have hfs11 := blk_frozen BK260.out 0
 have hns11_0 := NB259_260.out
 have hms11_0 := NB260_259.out
 have hs12 : w8.cell? ⟨gb260, 1, none⟩ = some (.slice none 0 0) := (blk_cell BK260.out 1).trans rfl
 have hfs12 := blk_frozen BK260.out 1
 have hns12_0 := NB259_260.out
 have hms12_0 := NB260_259.out
 refine skip_ (w1 := ?_) (by rfl) rfl ?_ ?_
 rotate_left
 ·go_simp
  rfl
 refine hK.out _ _ ⟨((cell_far (p := ⟨gb260, _, none⟩) NB259_260.out _).trans (((cell_far (p := ⟨gb260, _, none⟩) NB259_260.out _).trans (hHeld.1)))), ((cell_far (p := ⟨gb260, _, none⟩) NB259_260.out _).trans (((cell_far (p := ⟨gb260, _, none⟩) NB259_260.out _).trans (hHeld.2))))⟩ (fun hHeld => ?_)
 clear hK K
 refine done_ (done_of HT_.out Qh0_) ?_
 try go_wp2
 refine bodyPost_ret (results_cell_row rfl _ _ gb260 42 #[.slice Ao10 t261.length co10, .slice Ao9 t264.length co9] (0, 0) _ rfl (by (with_reducible repeat (first | refine blk_drewN ?_ _ | refine blk_drew ?_ | refine blk_alloc ?_ _)); refine blk_put (cs := #[.slice Ao10 t261.length co10, .slice none 0 0]) ?_ 1 _ rfl; (with_reducible repeat (first | refine blk_drewN ?_ _ | refine blk_drew ?_ | refine blk_alloc ?_ _)); refine blk_put (cs := #[.slice none 0 0, .slice none 0 0]) ?_ 0 _ rfl; (with_reducible repeat (first | refine blk_drewN ?_ _ | refine blk_drew ?_ | refine blk_alloc ?_ _)); exact BK260.out) Tryz.underlying42 rfl Qh0_) rfl ?_
 exact ⟨_, _, Qd0_, by (with_reducible repeat (first | apply Kd.R_alloc | apply Kd.R_drewN | apply Kd.R_drew)); exact Kd.R_mono (Kd.R_far (p := ⟨gb260, 1, none⟩) (Kd.R_far (p := ⟨gb260, 0, none⟩) (Kd.R_types HO263.out BK260.out (by decide)) (fun _ hk => hk.2) (.slice Ao10 t261.length co10)) (fun _ hk => hk.2) (.slice Ao9 t264.length co9)) (fun _ hk => hk.1.2), by (with_reducible repeat (first | apply Kd.R_alloc | apply Kd.R_drewN | apply Kd.R_drew)); exact Kd.R_mono (Kd.R_far (p := ⟨gb260, 1, none⟩) (Kd.R_far (p := ⟨gb260, 0, none⟩) (Kd.R_types HO266.out BK260.out (by decide)) (fun _ hk => hk.2) (.slice Ao10 t261.length co10)) (fun _ hk => hk.2) (.slice Ao9 t264.length co9)) (fun _ hk => hk.1.2), Qx0_⟩
def rdInt (s : ByteArray) : Int × Bool := match Lib.parseIntB 64 s.data.toList with
 | .ok v => if (-1000000000000000 ≤ v ∧ v ≤ 1000000000000000) ∧ (⟨(Lib.itoa v).toArray⟩ : ByteArray) = s then (v, true) else (0, false)
 | _ => (0, false)
def impl_readInteger.f (a0 : ByteArray) (a1 : Int) : Option (Int × Bool) := if a1 = 1000000000000000 ∧ a0.size ≤ 281474976710656 then some (rdInt a0) else none
theorem ri_parse (s : ByteArray) (hs : s.size ≤ 281474976710656) (w : World) (hT : LibW w) :
 Calls Tryz.prog 131 #[.string s, .int .i64 10, .int .i64 64] w fun e w' => (∃ v u : Value, e = .returned (.tuple #[v, u]) ∧ Below w.heap.size w w' ∧ ((u = .nilIface ∧ ∃ n, Lib.parseIntB 64 s.data.toList = .ok n ∧ v = .int .i64 n) ∨ ((∃ t p, u = .iface t p) ∧ (∃ n, v = .int .i64 n) ∧ ∀ n, Lib.parseIntB 64 s.data.toList ≠ .ok n))) := by
 obtain ⟨_, ⟨e1, h1, h2⟩, ⟨e2, h3, h4⟩⟩ := hT
 have f1 : Tryz.laysC174_ren.f 174 = 131 := rfl
 rcases h : Lib.parseIntB 64 s.data.toList with n | _ | _
 ·have hc := Any.strconv_ParseInt_10_at64_ok (P := Tryz.prog) (ρ := Tryz.laysC174_ren) Tryz.laysC174 s (by omega) n h w
  rw [f1] at hc
  refine hc.mono fun e w' ⟨he, hw⟩ => ⟨_, _, he, ?_, .inl ⟨rfl, n, rfl, rfl⟩⟩
  rcases hw with rfl | ⟨t, rfl⟩
  ·exact Below.refl _ _
  ·exact Lib.bytesWorld_below _ _ _
 ·have hc := Any.strconv_ParseInt_10_at64_syntax (P := Tryz.prog) (ρ := Tryz.laysC174_ren) Tryz.laysC174 s hs h e1 w h1 h2
  rw [f1] at hc
  exact hc.mono fun e w' ⟨N, he, _, _, hb⟩ => ⟨_, _, he, hb, .inr ⟨⟨_, _, rfl⟩, ⟨_, rfl⟩, fun _ h6 => by cases h6⟩⟩
 ·have hc := Any.strconv_ParseInt_10_at64_range (P := Tryz.prog) (ρ := Tryz.laysC174_ren) Tryz.laysC174 s hs h e2 w h3 h4
  rw [f1] at hc
  exact hc.mono fun e w' ⟨N, he, _, _, hb⟩ => ⟨_, _, he, hb, .inr ⟨⟨_, _, rfl⟩, ⟨_, rfl⟩, fun _ h6 => by cases h6⟩⟩
theorem ri_dec (v : Int) (h0 : -1000000000000000 ≤ v) (h1 : v ≤ 1000000000000000) : impl_Decimal.f v = some (⟨(Lib.itoa v).toArray⟩ : ByteArray) := by
 unfold impl_Decimal.f strconv_FormatInt.f
 rw [if_pos ⟨rfl, by omega, by omega⟩]; try rfl
set_option maxHeartbeats 8000000 in
set_option maxRecDepth 100000 in
theorem impl_readInteger.calls (a0 : ByteArray) (a1 : Int) (r0 : Int) (r1 : Bool) (w : World) (hT : LibW w) (h : impl_readInteger.f a0 a1 = some (r0, r1)) :
 Calls Tryz.prog 114 #[.string a0, .int .i64 a1] w fun e w' => e = .returned (.tuple #[.int .i64 r0, .bool r1]) ∧ Below w.heap.size w w' := by
 unfold impl_readInteger.f at h
 by_cases hc : a1 = 1000000000000000 ∧ a0.size ≤ 281474976710656
 rotate_left
 ·rw [if_neg hc] at h; cases h
 rw [if_pos hc] at h
 obtain ⟨rfl, hs⟩ := hc
 have h := Option.some.inj h
 have HS := Aside0.mk hs
 have HT := Aside0.mk hT
 have HH := Aside0.mk h
 clear hs hT h
 have HB0 := Aside0.mk (Below.refl w.heap.size w)
 have hp := ri_parse a0 HS.out w HT.out
 have key : ∀ (v u : Value) (w1 : World), Below w.heap.size w w1 → ((u = .nilIface ∧ ∃ n, Lib.parseIntB 64 a0.data.toList = .ok n ∧ v = .int .i64 n) ∨ ((∃ t p, u = .iface t p) ∧ (∃ n, v = .int .i64 n) ∧ ∀ n, Lib.parseIntB 64 a0.data.toList ≠ .ok n)) → True := fun _ _ _ _ _ => trivial
 clear key
 go_enter Tryz.func114, Tryz.ntmps114
 go_wp2_with (go_at_call 131; refine hp.mono ?_)
 rintro e w1 ⟨v, u, rfl, hb, hcase⟩
 have HB := Aside0.mk hb
 clear hb
 have HT1 := Aside0.mk (tabBelow HT.out HB.out)
 rcases hcase with ⟨rfl, n, hn, rfl⟩ | ⟨⟨t, p, rfl⟩, ⟨n, rfl⟩, hno⟩
 ·have hr := HH.out
  unfold rdInt at hr
  rw [hn] at hr
  have HN := Aside0.mk hn
  clear hn
  by_cases hin : -1000000000000000 ≤ n ∧ n ≤ 1000000000000000
  ·have hw := Aside0.mk (show impl_within.f n (-1000000000000000) 1000000000000000 = some true by unfold impl_within.f; rw [if_pos hin.1, decide_eq_true hin.2])
   have hd := Aside0.mk (ri_dec n hin.1 hin.2)
   obtain ⟨t, ht⟩ : ∃ t : ByteArray, t = ⟨(Lib.itoa n).toArray⟩ := ⟨_, rfl⟩
   rw [← ht] at hd
   simp only [← ht] at hr
   clear ht
   by_cases he : t = a0
   ·subst he
    rw [if_pos ⟨hin, rfl⟩] at hr
    obtain ⟨rfl, rfl⟩ := Prod.mk.inj hr
    clear hin hr
    have hnn : (t.toList != t.toList) = false := bne_self_eq_false _
    go_wp2_with (first | (go_at_call 52; (with_reducible refine (impl_within.calls n (-1000000000000000) 1000000000000000 true _ hw.out).mono ?_); rintro e w2 ⟨rfl, ⟨nd, rfl⟩⟩) | (go_at_call 9; (with_reducible refine (impl_Decimal.calls n t _ ?tb hd.out).mono ?_); (case tb => exact tabBelow HT1.out (pw_below_drewN (Below.refl _ _) _)); rintro e w3 ⟨rfl, hb3⟩; have HB3 := Aside0.mk (below_step (pw_below_drewN HB.out _) hb3); clear hb3))
    go_ret2
    exact ⟨rfl, HB3.out⟩
   ·rw [if_neg (fun h => he h.2)] at hr
    obtain ⟨rfl, rfl⟩ := Prod.mk.inj hr
    clear hin hr
    have hnn : (t.toList == a0.toList) = false := beq_eq_false_iff_ne.2 (fun e => he (by rw [Lib.toList_data, Lib.toList_data] at e; exact ByteArray.ext (Array.ext' e)))
    have hnn2 : (t.toList != a0.toList) = true := by rw [bne, hnn]; rfl
    clear he
    go_wp2_with (first | (go_at_call 52; (with_reducible refine (impl_within.calls n (-1000000000000000) 1000000000000000 true _ hw.out).mono ?_); rintro e w2 ⟨rfl, ⟨nd, rfl⟩⟩) | (go_at_call 9; (with_reducible refine (impl_Decimal.calls n t _ ?tb hd.out).mono ?_); (case tb => exact tabBelow HT1.out (pw_below_drewN (Below.refl _ _) _)); rintro e w3 ⟨rfl, hb3⟩; have HB3 := Aside0.mk (below_step (pw_below_drewN HB.out _) hb3); clear hb3))
    go_ret2
    exact ⟨rfl, HB3.out⟩
  ·have hw := Aside0.mk (show impl_within.f n (-1000000000000000) 1000000000000000 = some false by
    unfold impl_within.f
    by_cases h1 : n ≥ -1000000000000000
    ·rw [if_pos h1, decide_eq_false (fun h2 => hin ⟨h1, h2⟩)]
    ·rw [if_neg h1])
   simp only [hin, false_and, if_false] at hr
   obtain ⟨rfl, rfl⟩ := Prod.mk.inj hr
   clear hin hr
   go_wp2_with (first | (go_at_call 52; (with_reducible refine (impl_within.calls n (-1000000000000000) 1000000000000000 false _ hw.out).mono ?_); rintro e w2 ⟨rfl, ⟨nd, rfl⟩⟩))
   go_ret2
   exact ⟨rfl, pw_below_drewN HB.out _⟩
 ·have hr := HH.out
  unfold rdInt at hr
  rcases hq : Lib.parseIntB 64 a0.data.toList with m | _ | _
  ·exact absurd hq (hno m)
  all_goals
   rw [hq] at hr
   obtain ⟨rfl, rfl⟩ := Prod.mk.inj hr
   clear hr hno hq
   go_wp2
   go_ret2
   exact ⟨rfl, HB.out⟩
def impl_ReadDecimal.f (a0 : ByteArray) : Option (Int × Bool) := (impl_readInteger.f a0 1000000000000000).bind fun bt267 => (some (bt267.1, bt267.2))
set_option maxHeartbeats 8000000 in
set_option maxRecDepth 100000 in
theorem impl_ReadDecimal.calls (a0 : ByteArray) (r1 : Int) (r2 : Bool) (w : World) (hT : LibW w) (h : impl_ReadDecimal.f a0 = some (r1, r2)) :
 Calls Tryz.prog 90 #[.string a0] w fun e w' => e = .returned (.tuple #[.int .i64 r1, .bool r2]) ∧ Below w.heap.size w w' := by
 have HT := Aside0.mk hT
 clear hT
 have HB := Aside0.mk (Below.refl w.heap.size w)
 have H : ((impl_readInteger.f a0 1000000000000000).bind fun bt267 => (some (bt267.1, bt267.2))) = some (r1, r2) := h
 clear h
 replace H := Option.bind_eq_some_iff.mp H
 obtain ⟨⟨t267, t268⟩, A20, H⟩ := H
 try dsimp only at H
 have A2 := Aside0.mk A20
 clear A20
 simp only [Option.some.injEq, Prod.mk.injEq] at H
 obtain ⟨rfl, rfl⟩ := H
 go_enter Tryz.func90, Tryz.ntmps90
 go_wp2_with (first | ((with_reducible refine gate_callee (f := 114) rfl ?_); refine goesL_ (some 5) rfl rfl Tryz.func114 Qh0_ rfl #[.string a0, .int .i64 1000000000000000] rfl Qb0_ ?_; (with_reducible refine (impl_readInteger.calls a0 1000000000000000 t267 t268 _ ?tb A2.out).mono ?_); (case tb => exact Qw0_); rintro e w3 ⟨rfl, hb⟩; refine ⟨_, rfl, ?_⟩; have n0_ := Aside0.mk (below_step Qa0_ hb); clear HB; have HB := n0_; clear n0_; (try clear hb); (try clear hb2); (try clear hk); (try clear hi)))
 go_ret2
 exact ⟨Qd0_, Qa0_⟩
end Go.Proofs.YtdnjebnmianogaaGreatDoor.QFnTop
